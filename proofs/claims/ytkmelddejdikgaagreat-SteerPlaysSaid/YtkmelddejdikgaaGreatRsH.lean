/-
  Of the specification: Point. Of the specification: Sun, Point. What the statements on controls ask for first. Controls stay within limits. Chapter 26: SteerPlays.
-/
import Derived.Test.YtkmelddejdikgaaGreatRsD
import Derived.Test.YtkmelddejdikgaaGreatStC
import Derived.Test.YtkmelddejdikgaaGreatVLimR
import Derived.Test.YtkmelddejdikgaaGreatBet
import Derived.Test.YtkmelddejdikgaaGreatRsF
import Derived.Test.YtkmelddejdikgaaGreatStL
import Derived.Test.YtkmelddejdikgaaGreatStE
import Derived.Test.YtkmelddejdikgaaGreatLawVec
import Derived.Test.YtkmelddejdikgaaGreatQEq
import Derived.Test.YtkmelddejdikgaaGreatStP
import Derived.Test.YtkmelddejdikgaaGreatArg
set_option maxRecDepth 100000
set_option linter.unusedSimpArgs false
set_option linter.unusedVariables false
namespace Go.Proofs.YtkmelddejdikgaaGreat
open Go.RowKit PM Dt
set_option maxHeartbeats 6000000 in
theorem rpoint_no (X : SSt) (V : SeT) (q : Nat → Int) (w : World) (ha : ∀ i, i < 4 → I64 (V.att i)) (hq : ∀ i, i < 4 → I64 (q i)) (hk : senseOk V = false) : Calls Tryz.prog 10 #[.agg (rssc X), .agg (sec V), .agg (qfn q)] w fun e w' => e = .returned (.tuple #[.agg (rssc X), .agg (qfn fun _ => 0), .int .i64 2]) ∧ Below w.heap.size w w' := by
 have RV := Lib.hid (fun w => rsval_any V w)
 rw [hk] at RV
 have BT := Lib.hid (fun w => rbetween_any V.att q w ha hq)
 clear hk ha hq
 generalize betF V.att q = Bt at *
 generalize betE V.att q = LE at *
 go_enter Tryz.func10, Tryz.ntmps10
 go_upto_region 1 with (fail)
 simp only [rssc_zero, zero_spd]
 have y : blk (((((w.alloc (.cells (rssc X) 30)).alloc (.cells (sec V) 33)).alloc (.cells (qfn q) 31)).alloc (.cells (rssc SSt.zero) 30)).alloc (.cells (qfn fun _ => 0) 28)) w.heap.size (rssc X) 30 := ((((blk.new _ _ _).alloc _).alloc _).alloc _).alloc _
 have v : blk (((((w.alloc (.cells (rssc X) 30)).alloc (.cells (sec V) 33)).alloc (.cells (qfn q) 31)).alloc (.cells (rssc SSt.zero) 30)).alloc (.cells (qfn fun _ => 0) 28)) (w.heap.size + 1) (sec V) 33 := (((blk.new' (by simp)).alloc _).alloc _).alloc _
 have qv : blk (((((w.alloc (.cells (rssc X) 30)).alloc (.cells (sec V) 33)).alloc (.cells (qfn q) 31)).alloc (.cells (rssc SSt.zero) 30)).alloc (.cells (qfn fun _ => 0) 28)) (w.heap.size + 2) (qfn q) 31 := ((blk.new' (by simp)).alloc _).alloc _
 have r1 : blk (((((w.alloc (.cells (rssc X) 30)).alloc (.cells (sec V) 33)).alloc (.cells (qfn q) 31)).alloc (.cells (rssc SSt.zero) 30)).alloc (.cells (qfn fun _ => 0) 28)) (w.heap.size + 3) (rssc SSt.zero) 30 := (blk.new' (by simp)).alloc _
 have r2 : blk (((((w.alloc (.cells (rssc X) 30)).alloc (.cells (sec V) 33)).alloc (.cells (qfn q) 31)).alloc (.cells (rssc SSt.zero) 30)).alloc (.cells (qfn fun _ => 0) 28)) (w.heap.size + 4) (qfn fun _ => 0) 28 := blk.new' (by simp)
 have hB : Below w.heap.size w (((((w.alloc (.cells (rssc X) 30)).alloc (.cells (sec V) 33)).alloc (.cells (qfn q) 31)).alloc (.cells (rssc SSt.zero) 30)).alloc (.cells (qfn fun _ => 0) 28)) := by go_grown
 generalize (((((w.alloc (.cells (rssc X) 30)).alloc (.cells (sec V) 33)).alloc (.cells (qfn q) 31)).alloc (.cells (rssc SSt.zero) 30)).alloc (.cells (qfn fun _ => 0) 28)) = w0 at *
 have lt_y := y.lt
 have lt_v := v.lt
 have lt_qv := qv.lt
 have lt_r1 := r1.lt
 have lt_r2 := r2.lt
 have hW0 : w.heap.size ≤ w0.heap.size := by simpa using hB.size
 apply wp_region_Q 10 [0, 1, 3, 7, 15, 31, 63, 127, 255, 511] [7] [_, _, _, _, _, _, _, (fun p => .pointer (some ⟨p 7, 0, none⟩)), (fun _ => undef), _] (fun p L w' => w0.heap.size ≤ w'.heap.size ∧ Below w.heap.size w w' ∧ blk w' w.heap.size (rssc X) 30 ∧ blk w' (w.heap.size + 1) (sec V) 33 ∧ blk w' (w.heap.size + 2) (qfn q) 31 ∧ blk w' (w.heap.size + 3) (rssc SSt.zero) 30 ∧ blk w' (w.heap.size + 4) (qfn fun _ => 0) 28 ∧ (L 7 = true → w0.heap.size ≤ p 7 ∧ blk w' (p 7) (bif L 8 then (qfn Bt) else (qfn fun _ => 0)) 31)) _ [(0, 17), (1, 18), (2, 19), (3, 20), (4, 16), (5, 21), (6, 22), (7, 9), (9, 10)] [0, 1, 2, 3, 4, 5, 6, 7, 8, 9]
 case hn => rfl
 case hB => kernel_rfl
 case hds => kernel_rfl
 case hA => (intro p; simp only [putsD, Act.put, sIT, sCZ, sCS, gCZ, gCS]; exact rfl)
 case h0 => exact fun p => ⟨Nat.le_refl _, hB, y, v, qv, r1, r2, fun h => absurd h (by decide)⟩
 case hmore => exact fun p L w1 w2 ⟨hsz, hB, y, v, qv, r1, r2, h_l⟩ hm => ⟨Nat.le_trans hsz hm.size, hB.trans (hm.mono (Nat.le_trans hW0 hsz)), y.below hm y.lt, v.below hm v.lt, qv.below hm qv.lt, r1.below hm r1.lt, r2.below hm r2.lt, fun hl => ⟨(h_l hl).1, (h_l hl).2.below hm (h_l hl).2.lt⟩⟩
 case hs =>
  intro more
  refine sVV ?_
  refine sWW ?_ ?_
  ·rintro p L w1 ⟨hsz, hB, y, v, qv, r1, r2, h_l⟩ hk
   have L8 : L 8 = false := hk.2.2 8 rfl
   exact valR_part _ _ rfl _ 11 rfl _ _ v (qfn V.att) (se_a V) _ Tryz.underlying31 rfl (by rw [qfn_size]; kernel_rfl) rfl
  refine sWW ?_ ?_
  ·rintro p L w1 ⟨hsz, hB, y, v, qv, r1, r2, h_l⟩ hk
   have L8 : L 8 = false := hk.2.2 8 rfl
   first | exact valR_row _ _ rfl _ rfl _ _ qv _ Tryz.underlying31 rfl (by first | kernel_rfl | (rw [qfn_size]; kernel_rfl)) rfl | (have hc := qv.cellIs (qfn_get _ (show 0 < 4 by omega)); go_simp; exact ⟨rfl, rfl⟩)
  refine stepD 3 rfl (fun p => rfl) (fun _ _ _ h => h) more ?_ ?_
  ·rintro p L w1 ⟨hsz, hB, y, v, qv, r1, r2, h_l⟩ hk
   go_simp
   refine (BT.out _).mono ?_
   rintro e w2 ⟨rfl, h2⟩
   first | exact ⟨rfl, h2⟩ | (subst h2; exact ⟨rfl, Below.refl _ _⟩)
  iterate 3 (refine sVV ?_)
  refine AllI.cons ?_ ?_
  ·refine stepI_alloc 7 rfl (fun p => rfl) rfl (qfn fun _ => 0) 31 (fun p => rfl) ?_ ?_
   ·intro p w1
    go_simp
    first | rfl | rw [zero_quat]
   rintro p L w1 ⟨hsz, hB, y, v, qv, r1, r2, h_l⟩ hk
   have L8 : L 8 = false := hk.2.2 8 rfl
   refine ⟨Nat.le_trans hsz (by simp), hB.alloc (Nat.le_trans (by first | exact hW0 | (have := hB.size; simp at this ⊢; omega)) hsz) _, y.alloc _, v.alloc _, qv.alloc _, r1.alloc _, r2.alloc _, fun _ => ⟨hsz, ?_⟩⟩
   rw [show upL L 7 8 = false from L8]
   exact blk.new _ _ _
  refine AllI.cons ?_ ?_
  ·refine stepI_store 8 rfl (fun p => rfl) (fun p => rfl) _ _ _ rfl (fun p => p 7) 0 (fun p => rfl) (fun p => (qfn Bt)) (fun p => rfl) (fun p => (qfn fun _ => 0)) (fun p => (qfn Bt)) 31 (fun p => over_qq _ _) (fun p => by first | (rw [qfn_size, qfn_size]; decide) | simp [qfn_size, qfn_size]) (fun p => by rw [qfn_size]; kernel_rfl) (fun p => qfn_one _) ?_ ?_
   ·rintro p L w1 ⟨hsz, hB, y, v, qv, r1, r2, h_l⟩ hk
    have L8 : L 8 = false := hk.1
    have hh := (h_l (hk.2.1 7 rfl)).2
    rw [L8] at hh
    try simp only [cond_true, cond_false] at hh
    exact hh
   ·rintro p L w1 ⟨hsz, hB, y, v, qv, r1, r2, h_l⟩ hk
    have L8 : L 8 = false := hk.1
    skip
    have hp := h_l (hk.2.1 7 rfl)
    refine ⟨(by simpa using hsz), Below.setRow hB (by first | exact Nat.le_trans hW0 hp.1 | exact ge_l | omega | (have := hB.size; simp at this ⊢; omega)) _, y.rowOther (by first | exact Nat.ne_of_lt (Nat.lt_of_lt_of_le lt_y hp.1) | omega) _, v.rowOther (by first | exact Nat.ne_of_lt (Nat.lt_of_lt_of_le lt_v hp.1) | omega) _, qv.rowOther (by first | exact Nat.ne_of_lt (Nat.lt_of_lt_of_le lt_qv hp.1) | omega) _, r1.rowOther (by first | exact Nat.ne_of_lt (Nat.lt_of_lt_of_le lt_r1 hp.1) | omega) _, r2.rowOther (by first | exact Nat.ne_of_lt (Nat.lt_of_lt_of_le lt_r2 hp.1) | omega) _, fun _ => ⟨hp.1, ?_⟩⟩
    rw [show upL L 8 8 = true from rfl]
    exact hp.2.row _
  refine sVV ?_
  exact AllI.nil
 case hV0 =>
  intro p q
  refine AllI.cons ?_ ?_
  ·skip
   iterate 10 (refine AllI.cons (by first | exact .inl rfl | (refine .inr ?_; simp only [gCZ, gCS]; done) | exact .inr rfl) ?_)
   exact AllI.nil
  exact AllI.nil
 case he =>
 clear hB y v qv r1 r2
 rintro p w0r ⟨hsz, hB, y, v, qv, r1, r2, h_l⟩
 obtain ⟨le_l, l⟩ := h_l rfl
 clear h_l
 replace l : blk w0r (p 7) (qfn Bt) 31 := l
 have ne_y_l : w.heap.size ≠ p 7 := Nat.ne_of_lt (Nat.lt_of_lt_of_le lt_y le_l)
 have ne_v_l : (w.heap.size + 1) ≠ p 7 := Nat.ne_of_lt (Nat.lt_of_lt_of_le lt_v le_l)
 have ne_qv_l : (w.heap.size + 2) ≠ p 7 := Nat.ne_of_lt (Nat.lt_of_lt_of_le lt_qv le_l)
 have ne_r1_l : (w.heap.size + 3) ≠ p 7 := Nat.ne_of_lt (Nat.lt_of_lt_of_le lt_r1 le_l)
 have ne_r2_l : (w.heap.size + 4) ≠ p 7 := Nat.ne_of_lt (Nat.lt_of_lt_of_le lt_r2 le_l)
 have ge_l : w.heap.size ≤ p 7 := Nat.le_trans hW0 le_l
 generalize p 7 = l_b at *
 clear lt_y lt_v lt_qv lt_r1 lt_r2 hsz hW0 BT
 go_upto_region 2 with (fail)
 go_upto_region 3 with (first | (refine wpList_load_rowG ?hw _ _ rfl _ rfl _ _ _ _ v Tryz.underlying33 rfl ?hi ?_; (case hw => (first | rfl | (simp [Region.wanted, yielded]; done))); (case hi => (first | kernel_rfl | (rw [sec_size]; kernel_rfl)))) | (go_at_call 24; with_reducible refine (RV.out _).mono ?_; rintro e wv ⟨rfl, hb⟩; replace hB := hB.trans (hb.mono hB.size); replace y := y.below hb y.lt; replace v := v.below hb v.lt; replace qv := qv.below hb qv.lt; replace r1 := r1.below hb r1.lt; replace r2 := r2.below hb r2.lt; replace l := l.below hb l.lt; clear hb))
 clear RV
 have lt_y := y.lt
 have lt_v := v.lt
 have lt_qv := qv.lt
 have lt_r1 := r1.lt
 have lt_r2 := r2.lt
 have lt_l := l.lt
 have hW0 : w.heap.size ≤ wv.heap.size := by simpa using hB.size
 apply wp_region_Q 5 [0, 1, 3, 7, 15] [] [_, _, (fun _ => undef), (fun _ => undef), _] (fun p L w' => wv.heap.size ≤ w'.heap.size ∧ Below w.heap.size w w' ∧ blk w' w.heap.size (rssc X) 30 ∧ blk w' (w.heap.size + 1) (sec V) 33 ∧ blk w' (w.heap.size + 2) (qfn q) 31 ∧ blk w' (w.heap.size + 3) (bif L 2 then (rssc X) else (rssc SSt.zero)) 30 ∧ blk w' (w.heap.size + 4) (bif L 3 then (qfn (fun _ => 0)) else (qfn fun _ => 0)) 28 ∧ blk w' l_b (qfn Bt) 31) _ [(0, 30), (1, 31), (4, 8)] [0, 1, 2, 3, 4]
 case hn => rfl
 case hB => kernel_rfl
 case hds => kernel_rfl
 case hA => (intro p; simp only [putsD, Act.put, sIT, sCZ, sCS, gCZ, gCS]; exact rfl)
 case h0 => exact fun p => ⟨Nat.le_refl _, hB, y, v, qv, r1, r2, l⟩
 case hmore => exact fun p L w1 w2 ⟨hsz, hB, y, v, qv, r1, r2, l⟩ hm => ⟨Nat.le_trans hsz hm.size, hB.trans (hm.mono (Nat.le_trans hW0 hsz)), y.below hm y.lt, v.below hm v.lt, qv.below hm qv.lt, r1.below hm r1.lt, r2.below hm r2.lt, l.below hm l.lt⟩
 case hs =>
  intro more
  refine sWW ?_ ?_
  ·rintro p L w1 ⟨hsz, hB, y, v, qv, r1, r2, l⟩ hk
   have L2 : L 2 = false := hk.2.2 2 rfl
   have L3 : L 3 = false := hk.2.2 3 rfl
   first | exact valR_row _ _ rfl _ rfl _ _ y _ Tryz.underlying30 rfl (by first | kernel_rfl | (rw [rssc_size]; kernel_rfl)) rfl | (have hc := y.cellIs (show _[0]? = some _ from rfl); go_simp; exact ⟨rfl, rfl⟩)
  refine AllI.cons ?_ ?_
  ·refine stepI_val 1 rfl (fun p => rfl) ?_ (fun _ _ _ h => h)
   intros; (try simp only [vfn, qfn]); go_simp; exact ⟨rfl, rfl⟩
  refine AllI.cons ?_ ?_
  ·refine stepI_store 2 rfl (fun p => rfl) (fun p => rfl) _ _ _ rfl (fun _ => (w.heap.size + 3)) 0 (fun p => rfl) (fun p => (rssc X)) (fun p => rfl) (fun p => (rssc SSt.zero)) (fun p => (rssc X)) 30 (fun p => rsover _ _) (fun p => by first | (rw [rssc_size, rssc_size]; decide) | simp [rssc_size, rssc_size]) (fun p => by rw [rssc_size]; kernel_rfl) (fun p => rssc_one _) ?_ ?_
   ·rintro p L w1 ⟨hsz, hB, y, v, qv, r1, r2, l⟩ hk
    have L2 : L 2 = false := hk.1
    have L3 : L 3 = false := hk.2.2 3 rfl
    rw [L2] at r1
    try simp only [cond_true, cond_false] at r1
    exact r1
   ·rintro p L w1 ⟨hsz, hB, y, v, qv, r1, r2, l⟩ hk
    have L2 : L 2 = false := hk.1
    have L3 : L 3 = false := hk.2.2 3 rfl
    skip
    refine ⟨(by simpa using hsz), Below.setRow hB (by first | exact Nat.le_trans hW0 hp.1 | exact ge_r1 | omega | (have := hB.size; simp at this ⊢; omega)) _, y.rowOther (by first | exact ne_y_r1 | exact Ne.symm ne_r1_y | omega) _, v.rowOther (by first | exact ne_v_r1 | exact Ne.symm ne_r1_v | omega) _, qv.rowOther (by first | exact ne_qv_r1 | exact Ne.symm ne_r1_qv | omega) _, ?_, r2.rowOther (by first | exact ne_r2_r1 | exact Ne.symm ne_r1_r2 | omega) _, l.rowOther (Ne.symm ne_r1_l) _⟩
    rw [show upL L 2 2 = true from rfl]
    exact r1.row _
  refine AllI.cons ?_ ?_
  ·refine stepI_store 3 rfl (fun p => rfl) (fun p => rfl) _ _ _ rfl (fun _ => (w.heap.size + 4)) 0 (fun p => rfl) (fun p => (qfn (fun _ => 0))) (fun p => congrArg Value.agg zero_spd) (fun p => (qfn fun _ => 0)) (fun p => (qfn (fun _ => 0))) 28 (fun p => over_qq _ _) (fun p => by first | (rw [qfn_size, qfn_size]; decide) | simp [qfn_size, qfn_size]) (fun p => by rw [qfn_size]; kernel_rfl) (fun p => qfn_one _) ?_ ?_
   ·rintro p L w1 ⟨hsz, hB, y, v, qv, r1, r2, l⟩ hk
    have L2 : L 2 = true := hk.2.1 2 rfl
    have L3 : L 3 = false := hk.1
    rw [L3] at r2
    try simp only [cond_true, cond_false] at r2
    exact r2
   ·rintro p L w1 ⟨hsz, hB, y, v, qv, r1, r2, l⟩ hk
    have L2 : L 2 = true := hk.2.1 2 rfl
    have L3 : L 3 = false := hk.1
    skip
    refine ⟨(by simpa using hsz), Below.setRow hB (by first | exact Nat.le_trans hW0 hp.1 | exact ge_r2 | omega | (have := hB.size; simp at this ⊢; omega)) _, y.rowOther (by first | exact ne_y_r2 | exact Ne.symm ne_r2_y | omega) _, v.rowOther (by first | exact ne_v_r2 | exact Ne.symm ne_r2_v | omega) _, qv.rowOther (by first | exact ne_qv_r2 | exact Ne.symm ne_r2_qv | omega) _, r1.rowOther (by first | exact ne_r1_r2 | exact Ne.symm ne_r2_r1 | omega) _, ?_, l.rowOther (Ne.symm ne_r2_l) _⟩
    rw [show upL L 3 3 = true from rfl]
    exact r2.row _
  refine sVV ?_
  exact AllI.nil
 case hV0 => exact fun p q => AllI.nil
 case he =>
 clear hB y v qv r1 r2 l
 rintro p wvr ⟨hsz, hB, y, v, qv, r1, r2, l⟩
 replace r1 : blk wvr (w.heap.size + 3) (rssc X) 30 := r1
 replace r2 : blk wvr (w.heap.size + 4) (qfn (fun _ => 0)) 28 := r2
 clear lt_y lt_v lt_qv lt_r1 lt_r2 lt_l hsz hW0
 go_wp2_with (fail)
 refine bodyPost_ret (results_cct rfl _ _ _ _ _ _ _ _ _ _ _ _ rfl r1 rfl r2 Tryz.underlying30 rfl (by first | kernel_rfl | (rw [rssc_size]; kernel_rfl)) Tryz.underlying28 rfl (by first | kernel_rfl | (rw [qfn_size]; kernel_rfl))) rfl ?_
 refine ⟨?_, hB⟩
 rfl
set_option maxHeartbeats 6000000 in
theorem rpoint_bad (X : SSt) (V : SeT) (q : Nat → Int) (w : World) (ha : ∀ i, i < 4 → I64 (V.att i)) (hq : ∀ i, i < 4 → I64 (q i)) (hk : senseOk V = true) (hE : betE V.att q = 2) : Calls Tryz.prog 10 #[.agg (rssc X), .agg (sec V), .agg (qfn q)] w fun e w' => e = .returned (.tuple #[.agg (rssc X), .agg (qfn fun _ => 0), .int .i64 2]) ∧ Below w.heap.size w w' := by
 have RV := Lib.hid (fun w => rsval_any V w)
 rw [hk] at RV
 have BT := Lib.hid (fun w => rbetween_any V.att q w ha hq)
 rw [hE] at BT
 clear hE hk ha hq
 generalize betF V.att q = Bt at *
 go_enter Tryz.func10, Tryz.ntmps10
 go_upto_region 1 with (fail)
 simp only [rssc_zero, zero_spd]
 have y : blk (((((w.alloc (.cells (rssc X) 30)).alloc (.cells (sec V) 33)).alloc (.cells (qfn q) 31)).alloc (.cells (rssc SSt.zero) 30)).alloc (.cells (qfn fun _ => 0) 28)) w.heap.size (rssc X) 30 := ((((blk.new _ _ _).alloc _).alloc _).alloc _).alloc _
 have v : blk (((((w.alloc (.cells (rssc X) 30)).alloc (.cells (sec V) 33)).alloc (.cells (qfn q) 31)).alloc (.cells (rssc SSt.zero) 30)).alloc (.cells (qfn fun _ => 0) 28)) (w.heap.size + 1) (sec V) 33 := (((blk.new' (by simp)).alloc _).alloc _).alloc _
 have qv : blk (((((w.alloc (.cells (rssc X) 30)).alloc (.cells (sec V) 33)).alloc (.cells (qfn q) 31)).alloc (.cells (rssc SSt.zero) 30)).alloc (.cells (qfn fun _ => 0) 28)) (w.heap.size + 2) (qfn q) 31 := ((blk.new' (by simp)).alloc _).alloc _
 have r1 : blk (((((w.alloc (.cells (rssc X) 30)).alloc (.cells (sec V) 33)).alloc (.cells (qfn q) 31)).alloc (.cells (rssc SSt.zero) 30)).alloc (.cells (qfn fun _ => 0) 28)) (w.heap.size + 3) (rssc SSt.zero) 30 := (blk.new' (by simp)).alloc _
 have r2 : blk (((((w.alloc (.cells (rssc X) 30)).alloc (.cells (sec V) 33)).alloc (.cells (qfn q) 31)).alloc (.cells (rssc SSt.zero) 30)).alloc (.cells (qfn fun _ => 0) 28)) (w.heap.size + 4) (qfn fun _ => 0) 28 := blk.new' (by simp)
 have hB : Below w.heap.size w (((((w.alloc (.cells (rssc X) 30)).alloc (.cells (sec V) 33)).alloc (.cells (qfn q) 31)).alloc (.cells (rssc SSt.zero) 30)).alloc (.cells (qfn fun _ => 0) 28)) := by go_grown
 generalize (((((w.alloc (.cells (rssc X) 30)).alloc (.cells (sec V) 33)).alloc (.cells (qfn q) 31)).alloc (.cells (rssc SSt.zero) 30)).alloc (.cells (qfn fun _ => 0) 28)) = w0 at *
 have lt_y := y.lt
 have lt_v := v.lt
 have lt_qv := qv.lt
 have lt_r1 := r1.lt
 have lt_r2 := r2.lt
 have hW0 : w.heap.size ≤ w0.heap.size := by simpa using hB.size
 apply wp_region_Q 10 [0, 1, 3, 7, 15, 31, 63, 127, 255, 511] [7] [_, _, _, _, _, _, _, (fun p => .pointer (some ⟨p 7, 0, none⟩)), (fun _ => undef), _] (fun p L w' => w0.heap.size ≤ w'.heap.size ∧ Below w.heap.size w w' ∧ blk w' w.heap.size (rssc X) 30 ∧ blk w' (w.heap.size + 1) (sec V) 33 ∧ blk w' (w.heap.size + 2) (qfn q) 31 ∧ blk w' (w.heap.size + 3) (rssc SSt.zero) 30 ∧ blk w' (w.heap.size + 4) (qfn fun _ => 0) 28 ∧ (L 7 = true → w0.heap.size ≤ p 7 ∧ blk w' (p 7) (bif L 8 then (qfn Bt) else (qfn fun _ => 0)) 31)) _ [(0, 17), (1, 18), (2, 19), (3, 20), (4, 16), (5, 21), (6, 22), (7, 9), (9, 10)] [0, 1, 2, 3, 4, 5, 6, 7, 8, 9]
 case hn => rfl
 case hB => kernel_rfl
 case hds => kernel_rfl
 case hA => (intro p; simp only [putsD, Act.put, sIT, sCZ, sCS, gCZ, gCS]; exact rfl)
 case h0 => exact fun p => ⟨Nat.le_refl _, hB, y, v, qv, r1, r2, fun h => absurd h (by decide)⟩
 case hmore => exact fun p L w1 w2 ⟨hsz, hB, y, v, qv, r1, r2, h_l⟩ hm => ⟨Nat.le_trans hsz hm.size, hB.trans (hm.mono (Nat.le_trans hW0 hsz)), y.below hm y.lt, v.below hm v.lt, qv.below hm qv.lt, r1.below hm r1.lt, r2.below hm r2.lt, fun hl => ⟨(h_l hl).1, (h_l hl).2.below hm (h_l hl).2.lt⟩⟩
 case hs =>
  intro more
  refine sVV ?_
  refine sWW ?_ ?_
  ·rintro p L w1 ⟨hsz, hB, y, v, qv, r1, r2, h_l⟩ hk
   have L8 : L 8 = false := hk.2.2 8 rfl
   exact valR_part _ _ rfl _ 11 rfl _ _ v (qfn V.att) (se_a V) _ Tryz.underlying31 rfl (by rw [qfn_size]; kernel_rfl) rfl
  refine sWW ?_ ?_
  ·rintro p L w1 ⟨hsz, hB, y, v, qv, r1, r2, h_l⟩ hk
   have L8 : L 8 = false := hk.2.2 8 rfl
   first | exact valR_row _ _ rfl _ rfl _ _ qv _ Tryz.underlying31 rfl (by first | kernel_rfl | (rw [qfn_size]; kernel_rfl)) rfl | (have hc := qv.cellIs (qfn_get _ (show 0 < 4 by omega)); go_simp; exact ⟨rfl, rfl⟩)
  refine stepD 3 rfl (fun p => rfl) (fun _ _ _ h => h) more ?_ ?_
  ·rintro p L w1 ⟨hsz, hB, y, v, qv, r1, r2, h_l⟩ hk
   go_simp
   refine (BT.out _).mono ?_
   rintro e w2 ⟨rfl, h2⟩
   first | exact ⟨rfl, h2⟩ | (subst h2; exact ⟨rfl, Below.refl _ _⟩)
  iterate 3 (refine sVV ?_)
  refine AllI.cons ?_ ?_
  ·refine stepI_alloc 7 rfl (fun p => rfl) rfl (qfn fun _ => 0) 31 (fun p => rfl) ?_ ?_
   ·intro p w1
    go_simp
    first | rfl | rw [zero_quat]
   rintro p L w1 ⟨hsz, hB, y, v, qv, r1, r2, h_l⟩ hk
   have L8 : L 8 = false := hk.2.2 8 rfl
   refine ⟨Nat.le_trans hsz (by simp), hB.alloc (Nat.le_trans (by first | exact hW0 | (have := hB.size; simp at this ⊢; omega)) hsz) _, y.alloc _, v.alloc _, qv.alloc _, r1.alloc _, r2.alloc _, fun _ => ⟨hsz, ?_⟩⟩
   rw [show upL L 7 8 = false from L8]
   exact blk.new _ _ _
  refine AllI.cons ?_ ?_
  ·refine stepI_store 8 rfl (fun p => rfl) (fun p => rfl) _ _ _ rfl (fun p => p 7) 0 (fun p => rfl) (fun p => (qfn Bt)) (fun p => rfl) (fun p => (qfn fun _ => 0)) (fun p => (qfn Bt)) 31 (fun p => over_qq _ _) (fun p => by first | (rw [qfn_size, qfn_size]; decide) | simp [qfn_size, qfn_size]) (fun p => by rw [qfn_size]; kernel_rfl) (fun p => qfn_one _) ?_ ?_
   ·rintro p L w1 ⟨hsz, hB, y, v, qv, r1, r2, h_l⟩ hk
    have L8 : L 8 = false := hk.1
    have hh := (h_l (hk.2.1 7 rfl)).2
    rw [L8] at hh
    try simp only [cond_true, cond_false] at hh
    exact hh
   ·rintro p L w1 ⟨hsz, hB, y, v, qv, r1, r2, h_l⟩ hk
    have L8 : L 8 = false := hk.1
    skip
    have hp := h_l (hk.2.1 7 rfl)
    refine ⟨(by simpa using hsz), Below.setRow hB (by first | exact Nat.le_trans hW0 hp.1 | exact ge_l | omega | (have := hB.size; simp at this ⊢; omega)) _, y.rowOther (by first | exact Nat.ne_of_lt (Nat.lt_of_lt_of_le lt_y hp.1) | omega) _, v.rowOther (by first | exact Nat.ne_of_lt (Nat.lt_of_lt_of_le lt_v hp.1) | omega) _, qv.rowOther (by first | exact Nat.ne_of_lt (Nat.lt_of_lt_of_le lt_qv hp.1) | omega) _, r1.rowOther (by first | exact Nat.ne_of_lt (Nat.lt_of_lt_of_le lt_r1 hp.1) | omega) _, r2.rowOther (by first | exact Nat.ne_of_lt (Nat.lt_of_lt_of_le lt_r2 hp.1) | omega) _, fun _ => ⟨hp.1, ?_⟩⟩
    rw [show upL L 8 8 = true from rfl]
    exact hp.2.row _
  refine sVV ?_
  exact AllI.nil
 case hV0 =>
  intro p q
  refine AllI.cons ?_ ?_
  ·skip
   iterate 10 (refine AllI.cons (by first | exact .inl rfl | (refine .inr ?_; simp only [gCZ, gCS]; done) | exact .inr rfl) ?_)
   exact AllI.nil
  exact AllI.nil
 case he =>
 clear hB y v qv r1 r2
 rintro p w0r ⟨hsz, hB, y, v, qv, r1, r2, h_l⟩
 obtain ⟨le_l, l⟩ := h_l rfl
 clear h_l
 replace l : blk w0r (p 7) (qfn Bt) 31 := l
 have ne_y_l : w.heap.size ≠ p 7 := Nat.ne_of_lt (Nat.lt_of_lt_of_le lt_y le_l)
 have ne_v_l : (w.heap.size + 1) ≠ p 7 := Nat.ne_of_lt (Nat.lt_of_lt_of_le lt_v le_l)
 have ne_qv_l : (w.heap.size + 2) ≠ p 7 := Nat.ne_of_lt (Nat.lt_of_lt_of_le lt_qv le_l)
 have ne_r1_l : (w.heap.size + 3) ≠ p 7 := Nat.ne_of_lt (Nat.lt_of_lt_of_le lt_r1 le_l)
 have ne_r2_l : (w.heap.size + 4) ≠ p 7 := Nat.ne_of_lt (Nat.lt_of_lt_of_le lt_r2 le_l)
 have ge_l : w.heap.size ≤ p 7 := Nat.le_trans hW0 le_l
 generalize p 7 = l_b at *
 clear lt_y lt_v lt_qv lt_r1 lt_r2 hsz hW0 BT
 go_upto_region 2 with (fail)
 go_upto_region 3 with (first | (refine wpList_load_rowG ?hw _ _ rfl _ rfl _ _ _ _ v Tryz.underlying33 rfl ?hi ?_; (case hw => (first | rfl | (simp [Region.wanted, yielded]; done))); (case hi => (first | kernel_rfl | (rw [sec_size]; kernel_rfl)))) | (go_at_call 24; with_reducible refine (RV.out _).mono ?_; rintro e wv ⟨rfl, hb⟩; replace hB := hB.trans (hb.mono hB.size); replace y := y.below hb y.lt; replace v := v.below hb v.lt; replace qv := qv.below hb qv.lt; replace r1 := r1.below hb r1.lt; replace r2 := r2.below hb r2.lt; replace l := l.below hb l.lt; clear hb))
 clear RV
 have lt_y := y.lt
 have lt_v := v.lt
 have lt_qv := qv.lt
 have lt_r1 := r1.lt
 have lt_r2 := r2.lt
 have lt_l := l.lt
 have hW0 : w.heap.size ≤ wv.heap.size := by simpa using hB.size
 apply wp_region_Q 5 [0, 1, 3, 7, 15] [] [_, _, (fun _ => undef), (fun _ => undef), _] (fun p L w' => wv.heap.size ≤ w'.heap.size ∧ Below w.heap.size w w' ∧ blk w' w.heap.size (rssc X) 30 ∧ blk w' (w.heap.size + 1) (sec V) 33 ∧ blk w' (w.heap.size + 2) (qfn q) 31 ∧ blk w' (w.heap.size + 3) (bif L 2 then (rssc X) else (rssc SSt.zero)) 30 ∧ blk w' (w.heap.size + 4) (bif L 3 then (qfn (fun _ => 0)) else (qfn fun _ => 0)) 28 ∧ blk w' l_b (qfn Bt) 31) _ [(0, 30), (1, 31), (4, 8)] [0, 1, 2, 3, 4]
 case hn => rfl
 case hB => kernel_rfl
 case hds => kernel_rfl
 case hA => (intro p; simp only [putsD, Act.put, sIT, sCZ, sCS, gCZ, gCS]; exact rfl)
 case h0 => exact fun p => ⟨Nat.le_refl _, hB, y, v, qv, r1, r2, l⟩
 case hmore => exact fun p L w1 w2 ⟨hsz, hB, y, v, qv, r1, r2, l⟩ hm => ⟨Nat.le_trans hsz hm.size, hB.trans (hm.mono (Nat.le_trans hW0 hsz)), y.below hm y.lt, v.below hm v.lt, qv.below hm qv.lt, r1.below hm r1.lt, r2.below hm r2.lt, l.below hm l.lt⟩
 case hs =>
  intro more
  refine sWW ?_ ?_
  ·rintro p L w1 ⟨hsz, hB, y, v, qv, r1, r2, l⟩ hk
   have L2 : L 2 = false := hk.2.2 2 rfl
   have L3 : L 3 = false := hk.2.2 3 rfl
   first | exact valR_row _ _ rfl _ rfl _ _ y _ Tryz.underlying30 rfl (by first | kernel_rfl | (rw [rssc_size]; kernel_rfl)) rfl | (have hc := y.cellIs (show _[0]? = some _ from rfl); go_simp; exact ⟨rfl, rfl⟩)
  refine AllI.cons ?_ ?_
  ·refine stepI_val 1 rfl (fun p => rfl) ?_ (fun _ _ _ h => h)
   intros; (try simp only [vfn, qfn]); go_simp; exact ⟨rfl, rfl⟩
  refine AllI.cons ?_ ?_
  ·refine stepI_store 2 rfl (fun p => rfl) (fun p => rfl) _ _ _ rfl (fun _ => (w.heap.size + 3)) 0 (fun p => rfl) (fun p => (rssc X)) (fun p => rfl) (fun p => (rssc SSt.zero)) (fun p => (rssc X)) 30 (fun p => rsover _ _) (fun p => by first | (rw [rssc_size, rssc_size]; decide) | simp [rssc_size, rssc_size]) (fun p => by rw [rssc_size]; kernel_rfl) (fun p => rssc_one _) ?_ ?_
   ·rintro p L w1 ⟨hsz, hB, y, v, qv, r1, r2, l⟩ hk
    have L2 : L 2 = false := hk.1
    have L3 : L 3 = false := hk.2.2 3 rfl
    rw [L2] at r1
    try simp only [cond_true, cond_false] at r1
    exact r1
   ·rintro p L w1 ⟨hsz, hB, y, v, qv, r1, r2, l⟩ hk
    have L2 : L 2 = false := hk.1
    have L3 : L 3 = false := hk.2.2 3 rfl
    skip
    refine ⟨(by simpa using hsz), Below.setRow hB (by first | exact Nat.le_trans hW0 hp.1 | exact ge_r1 | omega | (have := hB.size; simp at this ⊢; omega)) _, y.rowOther (by first | exact ne_y_r1 | exact Ne.symm ne_r1_y | omega) _, v.rowOther (by first | exact ne_v_r1 | exact Ne.symm ne_r1_v | omega) _, qv.rowOther (by first | exact ne_qv_r1 | exact Ne.symm ne_r1_qv | omega) _, ?_, r2.rowOther (by first | exact ne_r2_r1 | exact Ne.symm ne_r1_r2 | omega) _, l.rowOther (Ne.symm ne_r1_l) _⟩
    rw [show upL L 2 2 = true from rfl]
    exact r1.row _
  refine AllI.cons ?_ ?_
  ·refine stepI_store 3 rfl (fun p => rfl) (fun p => rfl) _ _ _ rfl (fun _ => (w.heap.size + 4)) 0 (fun p => rfl) (fun p => (qfn (fun _ => 0))) (fun p => congrArg Value.agg zero_spd) (fun p => (qfn fun _ => 0)) (fun p => (qfn (fun _ => 0))) 28 (fun p => over_qq _ _) (fun p => by first | (rw [qfn_size, qfn_size]; decide) | simp [qfn_size, qfn_size]) (fun p => by rw [qfn_size]; kernel_rfl) (fun p => qfn_one _) ?_ ?_
   ·rintro p L w1 ⟨hsz, hB, y, v, qv, r1, r2, l⟩ hk
    have L2 : L 2 = true := hk.2.1 2 rfl
    have L3 : L 3 = false := hk.1
    rw [L3] at r2
    try simp only [cond_true, cond_false] at r2
    exact r2
   ·rintro p L w1 ⟨hsz, hB, y, v, qv, r1, r2, l⟩ hk
    have L2 : L 2 = true := hk.2.1 2 rfl
    have L3 : L 3 = false := hk.1
    skip
    refine ⟨(by simpa using hsz), Below.setRow hB (by first | exact Nat.le_trans hW0 hp.1 | exact ge_r2 | omega | (have := hB.size; simp at this ⊢; omega)) _, y.rowOther (by first | exact ne_y_r2 | exact Ne.symm ne_r2_y | omega) _, v.rowOther (by first | exact ne_v_r2 | exact Ne.symm ne_r2_v | omega) _, qv.rowOther (by first | exact ne_qv_r2 | exact Ne.symm ne_r2_qv | omega) _, r1.rowOther (by first | exact ne_r1_r2 | exact Ne.symm ne_r2_r1 | omega) _, ?_, l.rowOther (Ne.symm ne_r2_l) _⟩
    rw [show upL L 3 3 = true from rfl]
    exact r2.row _
  refine sVV ?_
  exact AllI.nil
 case hV0 => exact fun p q => AllI.nil
 case he =>
 clear hB y v qv r1 r2 l
 rintro p wvr ⟨hsz, hB, y, v, qv, r1, r2, l⟩
 replace r1 : blk wvr (w.heap.size + 3) (rssc X) 30 := r1
 replace r2 : blk wvr (w.heap.size + 4) (qfn (fun _ => 0)) 28 := r2
 clear lt_y lt_v lt_qv lt_r1 lt_r2 lt_l hsz hW0
 go_wp2_with (fail)
 refine bodyPost_ret (results_cct rfl _ _ _ _ _ _ _ _ _ _ _ _ rfl r1 rfl r2 Tryz.underlying30 rfl (by first | kernel_rfl | (rw [rssc_size]; kernel_rfl)) Tryz.underlying28 rfl (by first | kernel_rfl | (rw [qfn_size]; kernel_rfl))) rfl ?_
 refine ⟨?_, hB⟩
 rfl
set_option maxHeartbeats 12000000 in
theorem rpoint_ok (X : SSt) (V : SeT) (q : Nat → Int) (w : World) (ha : ∀ i, i < 4 → I64 (V.att i)) (hq : ∀ i, i < 4 → I64 (q i)) (hk : senseOk V = true) (hE : betE V.att q = 0) (hD : ∀ i, i < 3 → -4194304 ≤ X.D i ∧ X.D i ≤ 4194304) (hL : ∀ i, i < 4 → -1099511627776 ≤ betF V.att q i ∧ betF V.att q i ≤ 1099511627776) (hT : ∀ i, i < 3 → -1099511627776 ≤ ptTo (betF V.att q) i ∧ ptTo (betF V.att q) i ≤ 1099511627776) : Calls Tryz.prog 10 #[.agg (rssc X), .agg (sec V), .agg (qfn q)] w fun e w' => e = .returned (.tuple #[.agg (rssc (stX X V (fun _ => 0) (ptTo (betF V.att q)))), .agg (qfn (stC X V (ptTo (betF V.att q)))), .int .i64 0]) ∧ Below w.heap.size w w' := by
 have RV := Lib.hid (fun w => rsval_any V w)
 rw [hk] at RV
 have BT := Lib.hid (fun w => rbetween_any V.att q w ha hq)
 rw [hE] at BT
 generalize betF V.att q = Bt at *
 have LM := Lib.hid (fun w => rvlimit_any (ptV Bt) 4194304 w ⟨by omega, by omega⟩)
 rw [show limF (ptV Bt) 4194304 = ptTo Bt from rfl] at LM
 have ST := Lib.hid (fun w => rstep_any ⟨X.D, fun _ => 0, X.P, X.g⟩ V (ptTo Bt) w hk hD hT)
 rw [show stX ⟨X.D, fun _ => 0, X.P, X.g⟩ V (fun _ => 0) (ptTo Bt) = stX X V (fun _ => 0) (ptTo Bt) from rfl, show stC ⟨X.D, fun _ => 0, X.P, X.g⟩ V (ptTo Bt) = stC X V (ptTo Bt) from rfl] at ST
 have b1 := hL 1 (by omega)
 have f1 : IntKind.i64.wrap (Bt 1 + 16) = Bt 1 + 16 := by rw [IntKind.wrap_i64]; omega
 have F1 := Lib.hid (fun w => rfloor_any (Bt 1 + 16) 32 w (.inr rfl) (by omega))
 have b2 := hL 2 (by omega)
 have f2 : IntKind.i64.wrap (Bt 2 + 16) = Bt 2 + 16 := by rw [IntKind.wrap_i64]; omega
 have F2 := Lib.hid (fun w => rfloor_any (Bt 2 + 16) 32 w (.inr rfl) (by omega))
 have b3 := hL 3 (by omega)
 have f3 : IntKind.i64.wrap (Bt 3 + 16) = Bt 3 + 16 := by rw [IntKind.wrap_i64]; omega
 have F3 := Lib.hid (fun w => rfloor_any (Bt 3 + 16) 32 w (.inr rfl) (by omega))
 clear ha hq hk hE hD hL hT b1 b2 b3
 generalize stX X V (fun _ => 0) (ptTo Bt) = N at *
 generalize stC X V (ptTo Bt) = C at *
 have hv : #[Value.int .i64 ((Bt 1 + 16) / 32), .int .i64 ((Bt 2 + 16) / 32), .int .i64 ((Bt 3 + 16) / 32)] = vfn (ptV Bt) := vfn_of (ptV Bt)
 replace hv := Lib.hid hv
 generalize ptTo Bt = To at *
 generalize ptV Bt = Pv at *
 go_enter Tryz.func10, Tryz.ntmps10
 go_upto_region 1 with (fail)
 simp only [rssc_zero, zero_spd]
 have y : blk (((((w.alloc (.cells (rssc X) 30)).alloc (.cells (sec V) 33)).alloc (.cells (qfn q) 31)).alloc (.cells (rssc SSt.zero) 30)).alloc (.cells (qfn fun _ => 0) 28)) w.heap.size (rssc X) 30 := ((((blk.new _ _ _).alloc _).alloc _).alloc _).alloc _
 have v : blk (((((w.alloc (.cells (rssc X) 30)).alloc (.cells (sec V) 33)).alloc (.cells (qfn q) 31)).alloc (.cells (rssc SSt.zero) 30)).alloc (.cells (qfn fun _ => 0) 28)) (w.heap.size + 1) (sec V) 33 := (((blk.new' (by simp)).alloc _).alloc _).alloc _
 have qv : blk (((((w.alloc (.cells (rssc X) 30)).alloc (.cells (sec V) 33)).alloc (.cells (qfn q) 31)).alloc (.cells (rssc SSt.zero) 30)).alloc (.cells (qfn fun _ => 0) 28)) (w.heap.size + 2) (qfn q) 31 := ((blk.new' (by simp)).alloc _).alloc _
 have r1 : blk (((((w.alloc (.cells (rssc X) 30)).alloc (.cells (sec V) 33)).alloc (.cells (qfn q) 31)).alloc (.cells (rssc SSt.zero) 30)).alloc (.cells (qfn fun _ => 0) 28)) (w.heap.size + 3) (rssc SSt.zero) 30 := (blk.new' (by simp)).alloc _
 have r2 : blk (((((w.alloc (.cells (rssc X) 30)).alloc (.cells (sec V) 33)).alloc (.cells (qfn q) 31)).alloc (.cells (rssc SSt.zero) 30)).alloc (.cells (qfn fun _ => 0) 28)) (w.heap.size + 4) (qfn fun _ => 0) 28 := blk.new' (by simp)
 have hB : Below w.heap.size w (((((w.alloc (.cells (rssc X) 30)).alloc (.cells (sec V) 33)).alloc (.cells (qfn q) 31)).alloc (.cells (rssc SSt.zero) 30)).alloc (.cells (qfn fun _ => 0) 28)) := by go_grown
 generalize (((((w.alloc (.cells (rssc X) 30)).alloc (.cells (sec V) 33)).alloc (.cells (qfn q) 31)).alloc (.cells (rssc SSt.zero) 30)).alloc (.cells (qfn fun _ => 0) 28)) = w0 at *
 have lt_y := y.lt
 have lt_v := v.lt
 have lt_qv := qv.lt
 have lt_r1 := r1.lt
 have lt_r2 := r2.lt
 have hW0 : w.heap.size ≤ w0.heap.size := by simpa using hB.size
 apply wp_region_Q 10 [0, 1, 3, 7, 15, 31, 63, 127, 255, 511] [7] [_, _, _, _, _, _, _, (fun p => .pointer (some ⟨p 7, 0, none⟩)), (fun _ => undef), _] (fun p L w' => w0.heap.size ≤ w'.heap.size ∧ Below w.heap.size w w' ∧ blk w' w.heap.size (rssc X) 30 ∧ blk w' (w.heap.size + 1) (sec V) 33 ∧ blk w' (w.heap.size + 2) (qfn q) 31 ∧ blk w' (w.heap.size + 3) (rssc SSt.zero) 30 ∧ blk w' (w.heap.size + 4) (qfn fun _ => 0) 28 ∧ (L 7 = true → w0.heap.size ≤ p 7 ∧ blk w' (p 7) (bif L 8 then (qfn Bt) else (qfn fun _ => 0)) 31)) _ [(0, 17), (1, 18), (2, 19), (3, 20), (4, 16), (5, 21), (6, 22), (7, 9), (9, 10)] [0, 1, 2, 3, 4, 5, 6, 7, 8, 9]
 case hn => rfl
 case hB => kernel_rfl
 case hds => kernel_rfl
 case hA => (intro p; simp only [putsD, Act.put, sIT, sCZ, sCS, gCZ, gCS]; exact rfl)
 case h0 => exact fun p => ⟨Nat.le_refl _, hB, y, v, qv, r1, r2, fun h => absurd h (by decide)⟩
 case hmore => exact fun p L w1 w2 ⟨hsz, hB, y, v, qv, r1, r2, h_l⟩ hm => ⟨Nat.le_trans hsz hm.size, hB.trans (hm.mono (Nat.le_trans hW0 hsz)), y.below hm y.lt, v.below hm v.lt, qv.below hm qv.lt, r1.below hm r1.lt, r2.below hm r2.lt, fun hl => ⟨(h_l hl).1, (h_l hl).2.below hm (h_l hl).2.lt⟩⟩
 case hs =>
  intro more
  refine sVV ?_
  refine sWW ?_ ?_
  ·rintro p L w1 ⟨hsz, hB, y, v, qv, r1, r2, h_l⟩ hk
   have L8 : L 8 = false := hk.2.2 8 rfl
   exact valR_part _ _ rfl _ 11 rfl _ _ v (qfn V.att) (se_a V) _ Tryz.underlying31 rfl (by rw [qfn_size]; kernel_rfl) rfl
  refine sWW ?_ ?_
  ·rintro p L w1 ⟨hsz, hB, y, v, qv, r1, r2, h_l⟩ hk
   have L8 : L 8 = false := hk.2.2 8 rfl
   first | exact valR_row _ _ rfl _ rfl _ _ qv _ Tryz.underlying31 rfl (by first | kernel_rfl | (rw [qfn_size]; kernel_rfl)) rfl | (have hc := qv.cellIs (qfn_get _ (show 0 < 4 by omega)); go_simp; exact ⟨rfl, rfl⟩)
  refine stepD 3 rfl (fun p => rfl) (fun _ _ _ h => h) more ?_ ?_
  ·rintro p L w1 ⟨hsz, hB, y, v, qv, r1, r2, h_l⟩ hk
   go_simp
   refine (BT.out _).mono ?_
   rintro e w2 ⟨rfl, h2⟩
   first | exact ⟨rfl, h2⟩ | (subst h2; exact ⟨rfl, Below.refl _ _⟩)
  iterate 3 (refine sVV ?_)
  refine AllI.cons ?_ ?_
  ·refine stepI_alloc 7 rfl (fun p => rfl) rfl (qfn fun _ => 0) 31 (fun p => rfl) ?_ ?_
   ·intro p w1
    go_simp
    first | rfl | rw [zero_quat]
   rintro p L w1 ⟨hsz, hB, y, v, qv, r1, r2, h_l⟩ hk
   have L8 : L 8 = false := hk.2.2 8 rfl
   refine ⟨Nat.le_trans hsz (by simp), hB.alloc (Nat.le_trans (by first | exact hW0 | (have := hB.size; simp at this ⊢; omega)) hsz) _, y.alloc _, v.alloc _, qv.alloc _, r1.alloc _, r2.alloc _, fun _ => ⟨hsz, ?_⟩⟩
   rw [show upL L 7 8 = false from L8]
   exact blk.new _ _ _
  refine AllI.cons ?_ ?_
  ·refine stepI_store 8 rfl (fun p => rfl) (fun p => rfl) _ _ _ rfl (fun p => p 7) 0 (fun p => rfl) (fun p => (qfn Bt)) (fun p => rfl) (fun p => (qfn fun _ => 0)) (fun p => (qfn Bt)) 31 (fun p => over_qq _ _) (fun p => by first | (rw [qfn_size, qfn_size]; decide) | simp [qfn_size, qfn_size]) (fun p => by rw [qfn_size]; kernel_rfl) (fun p => qfn_one _) ?_ ?_
   ·rintro p L w1 ⟨hsz, hB, y, v, qv, r1, r2, h_l⟩ hk
    have L8 : L 8 = false := hk.1
    have hh := (h_l (hk.2.1 7 rfl)).2
    rw [L8] at hh
    try simp only [cond_true, cond_false] at hh
    exact hh
   ·rintro p L w1 ⟨hsz, hB, y, v, qv, r1, r2, h_l⟩ hk
    have L8 : L 8 = false := hk.1
    skip
    have hp := h_l (hk.2.1 7 rfl)
    refine ⟨(by simpa using hsz), Below.setRow hB (by first | exact Nat.le_trans hW0 hp.1 | exact ge_l | omega | (have := hB.size; simp at this ⊢; omega)) _, y.rowOther (by first | exact Nat.ne_of_lt (Nat.lt_of_lt_of_le lt_y hp.1) | omega) _, v.rowOther (by first | exact Nat.ne_of_lt (Nat.lt_of_lt_of_le lt_v hp.1) | omega) _, qv.rowOther (by first | exact Nat.ne_of_lt (Nat.lt_of_lt_of_le lt_qv hp.1) | omega) _, r1.rowOther (by first | exact Nat.ne_of_lt (Nat.lt_of_lt_of_le lt_r1 hp.1) | omega) _, r2.rowOther (by first | exact Nat.ne_of_lt (Nat.lt_of_lt_of_le lt_r2 hp.1) | omega) _, fun _ => ⟨hp.1, ?_⟩⟩
    rw [show upL L 8 8 = true from rfl]
    exact hp.2.row _
  refine sVV ?_
  exact AllI.nil
 case hV0 =>
  intro p q
  refine AllI.cons ?_ ?_
  ·skip
   iterate 10 (refine AllI.cons (by first | exact .inl rfl | (refine .inr ?_; simp only [gCZ, gCS]; done) | exact .inr rfl) ?_)
   exact AllI.nil
  exact AllI.nil
 case he =>
 clear hB y v qv r1 r2
 rintro p w0r ⟨hsz, hB, y, v, qv, r1, r2, h_l⟩
 obtain ⟨le_l, l⟩ := h_l rfl
 clear h_l
 replace l : blk w0r (p 7) (qfn Bt) 31 := l
 have ne_y_l : w.heap.size ≠ p 7 := Nat.ne_of_lt (Nat.lt_of_lt_of_le lt_y le_l)
 have ne_v_l : (w.heap.size + 1) ≠ p 7 := Nat.ne_of_lt (Nat.lt_of_lt_of_le lt_v le_l)
 have ne_qv_l : (w.heap.size + 2) ≠ p 7 := Nat.ne_of_lt (Nat.lt_of_lt_of_le lt_qv le_l)
 have ne_r1_l : (w.heap.size + 3) ≠ p 7 := Nat.ne_of_lt (Nat.lt_of_lt_of_le lt_r1 le_l)
 have ne_r2_l : (w.heap.size + 4) ≠ p 7 := Nat.ne_of_lt (Nat.lt_of_lt_of_le lt_r2 le_l)
 have ge_l : w.heap.size ≤ p 7 := Nat.le_trans hW0 le_l
 generalize p 7 = l_b at *
 clear lt_y lt_v lt_qv lt_r1 lt_r2 hsz hW0 BT
 go_upto_region 2 with (fail)
 go_upto_region 4 with (first | (refine wpList_load_rowG ?hw _ _ rfl _ rfl _ _ _ _ v Tryz.underlying33 rfl ?hi ?_; (case hw => (first | rfl | (simp [Region.wanted, yielded]; done))); (case hi => (first | kernel_rfl | (rw [sec_size]; kernel_rfl)))) | (go_at_call 24; with_reducible refine (RV.out _).mono ?_; rintro e wv ⟨rfl, hb⟩; replace hB := hB.trans (hb.mono hB.size); replace y := y.below hb y.lt; replace v := v.below hb v.lt; replace qv := qv.below hb qv.lt; replace r1 := r1.below hb r1.lt; replace r2 := r2.below hb r2.lt; replace l := l.below hb l.lt; clear hb))
 clear RV
 have lt_y := y.lt
 have lt_v := v.lt
 have lt_qv := qv.lt
 have lt_r1 := r1.lt
 have lt_r2 := r2.lt
 have lt_l := l.lt
 have hW0 : w.heap.size ≤ wv.heap.size := by simpa using hB.size
 apply wp_region_Q 3 [0, 1, 3] [] [_, _, (fun _ => undef)] (fun p L w' => wv.heap.size ≤ w'.heap.size ∧ Below w.heap.size w w' ∧ blk w' w.heap.size (bif L 2 then (rssc ⟨X.D, fun _ => 0, X.P, X.g⟩) else (rssc X)) 30 ∧ blk w' (w.heap.size + 1) (sec V) 33 ∧ blk w' (w.heap.size + 2) (qfn q) 31 ∧ blk w' (w.heap.size + 3) (rssc SSt.zero) 30 ∧ blk w' (w.heap.size + 4) (qfn fun _ => 0) 28 ∧ blk w' l_b (qfn Bt) 31) _ [(0, 32), (1, 33)] [0, 1, 2]
 case hn => rfl
 case hB => kernel_rfl
 case hds => kernel_rfl
 case hA => (intro p; simp only [putsD, Act.put, sIT, sCZ, sCS, gCZ, gCS]; exact rfl)
 case h0 => exact fun p => ⟨Nat.le_refl _, hB, y, v, qv, r1, r2, l⟩
 case hmore => exact fun p L w1 w2 ⟨hsz, hB, y, v, qv, r1, r2, l⟩ hm => ⟨Nat.le_trans hsz hm.size, hB.trans (hm.mono (Nat.le_trans hW0 hsz)), y.below hm y.lt, v.below hm v.lt, qv.below hm qv.lt, r1.below hm r1.lt, r2.below hm r2.lt, l.below hm l.lt⟩
 case hs =>
  intro more
  refine AllI.cons ?_ ?_
  ·refine stepI_val 0 rfl (fun p => rfl) ?_ (fun _ _ _ h => h)
   intros; (try simp only [vfn, qfn]); go_simp; exact ⟨rfl, rfl⟩
  refine sVV ?_
  refine AllI.cons ?_ ?_
  ·refine stepI_store 2 rfl (fun p => rfl) (fun p => rfl) _ _ _ rfl (fun _ => w.heap.size) 3 (fun p => rfl) (fun p => (vfn (fun _ => 0))) (fun p => congrArg Value.agg zero_vec) (fun p => (rssc X)) (fun p => (rssc ⟨X.D, fun _ => 0, X.P, X.g⟩)) 30 (fun p => rsover_A _ _) (fun p => by first | (rw [vfn_size, rssc_size]; decide) | simp [vfn_size, rssc_size]) (fun p => by rw [vfn_size]; kernel_rfl) (fun p => vfn_one _) ?_ ?_
   ·rintro p L w1 ⟨hsz, hB, y, v, qv, r1, r2, l⟩ hk
    have L2 : L 2 = false := hk.1
    rw [L2] at y
    try simp only [cond_true, cond_false] at y
    exact y
   ·rintro p L w1 ⟨hsz, hB, y, v, qv, r1, r2, l⟩ hk
    have L2 : L 2 = false := hk.1
    skip
    refine ⟨(by simpa using hsz), Below.setRow hB (by first | exact Nat.le_trans hW0 hp.1 | exact ge_y | omega | (have := hB.size; simp at this ⊢; omega)) _, ?_, v.rowOther (by first | exact ne_v_y | exact Ne.symm ne_y_v | omega) _, qv.rowOther (by first | exact ne_qv_y | exact Ne.symm ne_y_qv | omega) _, r1.rowOther (by first | exact ne_r1_y | exact Ne.symm ne_y_r1 | omega) _, r2.rowOther (by first | exact ne_r2_y | exact Ne.symm ne_y_r2 | omega) _, l.rowOther (Ne.symm ne_y_l) _⟩
    rw [show upL L 2 2 = true from rfl]
    exact y.row _
  exact AllI.nil
 case hV0 => exact fun p q => AllI.nil
 case he =>
 clear hB y v qv r1 r2 l
 rintro p wvr ⟨hsz, hB, y, v, qv, r1, r2, l⟩
 replace y : blk wvr w.heap.size (rssc ⟨X.D, fun _ => 0, X.P, X.g⟩) 30 := y
 clear lt_y lt_v lt_qv lt_r1 lt_r2 lt_l hsz hW0
 go_upto_region 5 with (fail)
 have lt_y := y.lt
 have lt_v := v.lt
 have lt_qv := qv.lt
 have lt_r1 := r1.lt
 have lt_r2 := r2.lt
 have lt_l := l.lt
 have hW0 : w.heap.size ≤ wvr.heap.size := by simpa using hB.size
 apply wp_region_I 15 [0, 1, 3, 7, 0, 16, 48, 127, 0, 256, 768, 2047, 4095, 0, 16383] [13] [_, _, _, _, _, _, _, _, _, _, _, _, _, (fun p => .pointer (some ⟨p 13, 0, none⟩)), (fun _ => undef)] (fun p L w' => wvr.heap.size ≤ w'.heap.size ∧ Below w.heap.size w w' ∧ blk w' w.heap.size (rssc ⟨X.D, fun _ => 0, X.P, X.g⟩) 30 ∧ blk w' (w.heap.size + 1) (sec V) 33 ∧ blk w' (w.heap.size + 2) (qfn q) 31 ∧ blk w' (w.heap.size + 3) (rssc SSt.zero) 30 ∧ blk w' (w.heap.size + 4) (qfn fun _ => 0) 28 ∧ blk w' l_b (qfn Bt) 31 ∧ (L 13 = true → wvr.heap.size ≤ p 13 ∧ blk w' (p 13) (bif L 14 then (vfn Pv) else (vfn fun _ => 0)) 27)) _ [(0, 34), (1, 35), (2, 36), (3, 37), (4, 38), (5, 39), (6, 40), (7, 41), (8, 42), (9, 43), (10, 44), (11, 45), (12, 46), (13, 11)] [0, 1, 2, 3, 4, 5, 6, 7, 8, 9, 10, 11, 12, 13, 14]
 case hn => rfl
 case hm => kernel_rfl
 case hB => kernel_rfl
 case hds => kernel_rfl
 case hA => (intro p; simp only [putsD, Act.put, sIT, sCZ, sCS, gCZ, gCS]; exact rfl)
 case h0 => exact fun p => ⟨Nat.le_refl _, hB.drew, y.drew, v.drew, qv.drew, r1.drew, r2.drew, l.drew, fun h => absurd h (by decide)⟩
 case hmore => exact fun p L w1 w2 ⟨hsz, hB, y, v, qv, r1, r2, l, h_x⟩ hm => ⟨Nat.le_trans hsz hm.size, hB.trans (hm.mono (Nat.le_trans hW0 hsz)), y.below hm y.lt, v.below hm v.lt, qv.below hm qv.lt, r1.below hm r1.lt, r2.below hm r2.lt, l.below hm l.lt, fun hl => ⟨(h_x hl).1, (h_x hl).2.below hm (h_x hl).2.lt⟩⟩
 case hs =>
  intro more
  refine sVV ?_
  refine sWW ?_ ?_
  ·rintro p L w1 ⟨hsz, hB, y, v, qv, r1, r2, l, h_x⟩ hk
   have L14 : L 14 = false := hk.2.2 14 rfl
   have hc : w1.cell? ⟨l_b, 1, none⟩ = some (.int .i64 (Bt 1)) := l.cellIs (qfn_get _ (by omega))
   go_simp
   exact ⟨rfl, rfl⟩
  refine sVV ?_
  refine stepD 3 rfl (fun p => rfl) (fun _ _ _ h => h) more ?_ ?_
  ·rintro p L w1 ⟨hsz, hB, y, v, qv, r1, r2, l, h_x⟩ hk
   go_simp
   refine (F1.out _).mono ?_
   rintro e w2 ⟨rfl, h2⟩
   first | exact ⟨rfl, h2⟩ | (subst h2; exact ⟨rfl, Below.refl _ _⟩)
  refine sVV ?_
  refine sWW ?_ ?_
  ·rintro p L w1 ⟨hsz, hB, y, v, qv, r1, r2, l, h_x⟩ hk
   have L14 : L 14 = false := hk.2.2 14 rfl
   have hc : w1.cell? ⟨l_b, 2, none⟩ = some (.int .i64 (Bt 2)) := l.cellIs (qfn_get _ (by omega))
   go_simp
   exact ⟨rfl, rfl⟩
  refine sVV ?_
  refine stepD 7 rfl (fun p => rfl) (fun _ _ _ h => h) more ?_ ?_
  ·rintro p L w1 ⟨hsz, hB, y, v, qv, r1, r2, l, h_x⟩ hk
   go_simp
   refine (F2.out _).mono ?_
   rintro e w2 ⟨rfl, h2⟩
   first | exact ⟨rfl, h2⟩ | (subst h2; exact ⟨rfl, Below.refl _ _⟩)
  refine sVV ?_
  refine sWW ?_ ?_
  ·rintro p L w1 ⟨hsz, hB, y, v, qv, r1, r2, l, h_x⟩ hk
   have L14 : L 14 = false := hk.2.2 14 rfl
   have hc : w1.cell? ⟨l_b, 3, none⟩ = some (.int .i64 (Bt 3)) := l.cellIs (qfn_get _ (by omega))
   go_simp
   exact ⟨rfl, rfl⟩
  refine sVV ?_
  refine stepD 11 rfl (fun p => rfl) (fun _ _ _ h => h) more ?_ ?_
  ·rintro p L w1 ⟨hsz, hB, y, v, qv, r1, r2, l, h_x⟩ hk
   go_simp
   refine (F3.out _).mono ?_
   rintro e w2 ⟨rfl, h2⟩
   first | exact ⟨rfl, h2⟩ | (subst h2; exact ⟨rfl, Below.refl _ _⟩)
  refine AllI.cons ?_ ?_
  ·refine stepI_val 12 rfl (fun p => rfl) ?_ (fun _ _ _ h => h)
   intros; go_simp; exact ⟨congrArg Value.agg hv.out, rfl⟩
  refine AllI.cons ?_ ?_
  ·refine stepI_alloc 13 rfl (fun p => rfl) rfl (vfn fun _ => 0) 27 (fun p => rfl) ?_ ?_
   ·intro p w1
    go_simp
    first | rfl | rw [zero_vec]
   rintro p L w1 ⟨hsz, hB, y, v, qv, r1, r2, l, h_x⟩ hk
   have L14 : L 14 = false := hk.2.2 14 rfl
   refine ⟨Nat.le_trans hsz (by simp), hB.alloc (Nat.le_trans (by first | exact hW0 | (have := hB.size; simp at this ⊢; omega)) hsz) _, y.alloc _, v.alloc _, qv.alloc _, r1.alloc _, r2.alloc _, l.alloc _, fun _ => ⟨hsz, ?_⟩⟩
   rw [show upL L 13 14 = false from L14]
   exact blk.new _ _ _
  refine AllI.cons ?_ ?_
  ·refine stepI_store 14 rfl (fun p => rfl) (fun p => rfl) _ _ _ rfl (fun p => p 13) 0 (fun p => rfl) (fun p => (vfn Pv)) (fun p => rfl) (fun p => (vfn fun _ => 0)) (fun p => (vfn Pv)) 27 (fun p => over_v _ _) (fun p => by first | (rw [vfn_size, vfn_size]; decide) | simp [vfn_size, vfn_size]) (fun p => by rw [vfn_size]; kernel_rfl) (fun p => vfn_one _) ?_ ?_
   ·rintro p L w1 ⟨hsz, hB, y, v, qv, r1, r2, l, h_x⟩ hk
    have L14 : L 14 = false := hk.1
    have hh := (h_x (hk.2.1 13 rfl)).2
    rw [L14] at hh
    try simp only [cond_true, cond_false] at hh
    exact hh
   ·rintro p L w1 ⟨hsz, hB, y, v, qv, r1, r2, l, h_x⟩ hk
    have L14 : L 14 = false := hk.1
    skip
    have hp := h_x (hk.2.1 13 rfl)
    refine ⟨(by simpa using hsz), Below.setRow hB (by first | exact Nat.le_trans hW0 hp.1 | exact ge_x | omega | (have := hB.size; simp at this ⊢; omega)) _, y.rowOther (by first | exact Nat.ne_of_lt (Nat.lt_of_lt_of_le lt_y hp.1) | omega) _, v.rowOther (by first | exact Nat.ne_of_lt (Nat.lt_of_lt_of_le lt_v hp.1) | omega) _, qv.rowOther (by first | exact Nat.ne_of_lt (Nat.lt_of_lt_of_le lt_qv hp.1) | omega) _, r1.rowOther (by first | exact Nat.ne_of_lt (Nat.lt_of_lt_of_le lt_r1 hp.1) | omega) _, r2.rowOther (by first | exact Nat.ne_of_lt (Nat.lt_of_lt_of_le lt_r2 hp.1) | omega) _, l.rowOther (by first | exact Nat.ne_of_lt (Nat.lt_of_lt_of_le lt_l hp.1) | omega) _, fun _ => ⟨hp.1, ?_⟩⟩
    rw [show upL L 14 14 = true from rfl]
    exact hp.2.row _
  exact AllI.nil
 case hV0 =>
  intro p q
  refine AllI.cons ?_ ?_
  ·skip
   iterate 15 (refine AllI.cons (by first | exact .inl rfl | (refine .inr ?_; simp only [gCZ, gCS]; done) | exact .inr rfl) ?_)
   exact AllI.nil
  exact AllI.nil
 case he =>
 clear hB y v qv r1 r2 l
 rintro p wvrr ⟨hsz, hB, y, v, qv, r1, r2, l, h_x⟩
 obtain ⟨le_x, x⟩ := h_x rfl
 clear h_x
 replace x : blk wvrr (p 13) (vfn Pv) 27 := x
 have ne_y_x : w.heap.size ≠ p 13 := Nat.ne_of_lt (Nat.lt_of_lt_of_le lt_y le_x)
 have ne_v_x : (w.heap.size + 1) ≠ p 13 := Nat.ne_of_lt (Nat.lt_of_lt_of_le lt_v le_x)
 have ne_qv_x : (w.heap.size + 2) ≠ p 13 := Nat.ne_of_lt (Nat.lt_of_lt_of_le lt_qv le_x)
 have ne_r1_x : (w.heap.size + 3) ≠ p 13 := Nat.ne_of_lt (Nat.lt_of_lt_of_le lt_r1 le_x)
 have ne_r2_x : (w.heap.size + 4) ≠ p 13 := Nat.ne_of_lt (Nat.lt_of_lt_of_le lt_r2 le_x)
 have ne_l_x : l_b ≠ p 13 := Nat.ne_of_lt (Nat.lt_of_lt_of_le lt_l le_x)
 have ge_x : w.heap.size ≤ p 13 := Nat.le_trans hW0 le_x
 generalize p 13 = x_b at *
 clear lt_y lt_v lt_qv lt_r1 lt_r2 lt_l hsz hW0 F1 F2 F3 f1 f2 f3 hv
 go_upto_region 6 with (fail)
 have lt_y := y.lt
 have lt_v := v.lt
 have lt_qv := qv.lt
 have lt_r1 := r1.lt
 have lt_r2 := r2.lt
 have lt_l := l.lt
 have lt_x := x.lt
 have hW0 : w.heap.size ≤ wvrr.heap.size := by simpa using hB.size
 apply wp_region_Q 8 [0, 1, 3, 7, 15, 31, 63, 127] [5] [_, _, _, _, _, (fun p => .pointer (some ⟨p 5, 0, none⟩)), (fun _ => undef), _] (fun p L w' => wvrr.heap.size ≤ w'.heap.size ∧ Below w.heap.size w w' ∧ blk w' w.heap.size (rssc ⟨X.D, fun _ => 0, X.P, X.g⟩) 30 ∧ blk w' (w.heap.size + 1) (sec V) 33 ∧ blk w' (w.heap.size + 2) (qfn q) 31 ∧ blk w' (w.heap.size + 3) (rssc SSt.zero) 30 ∧ blk w' (w.heap.size + 4) (qfn fun _ => 0) 28 ∧ blk w' l_b (qfn Bt) 31 ∧ blk w' x_b (vfn Pv) 27 ∧ (L 5 = true → wvrr.heap.size ≤ p 5 ∧ blk w' (p 5) (bif L 6 then (vfn To) else (vfn fun _ => 0)) 27)) _ [(0, 48), (1, 49), (2, 47), (3, 50), (4, 51), (5, 12), (7, 13)] [0, 1, 2, 3, 4, 5, 6, 7]
 case hn => rfl
 case hB => kernel_rfl
 case hds => kernel_rfl
 case hA => (intro p; simp only [putsD, Act.put, sIT, sCZ, sCS, gCZ, gCS]; exact rfl)
 case h0 => exact fun p => ⟨Nat.le_refl _, hB, y, v, qv, r1, r2, l, x, fun h => absurd h (by decide)⟩
 case hmore => exact fun p L w1 w2 ⟨hsz, hB, y, v, qv, r1, r2, l, x, h_tw⟩ hm => ⟨Nat.le_trans hsz hm.size, hB.trans (hm.mono (Nat.le_trans hW0 hsz)), y.below hm y.lt, v.below hm v.lt, qv.below hm qv.lt, r1.below hm r1.lt, r2.below hm r2.lt, l.below hm l.lt, x.below hm x.lt, fun hl => ⟨(h_tw hl).1, (h_tw hl).2.below hm (h_tw hl).2.lt⟩⟩
 case hs =>
  intro more
  refine sWW ?_ ?_
  ·rintro p L w1 ⟨hsz, hB, y, v, qv, r1, r2, l, x, h_tw⟩ hk
   have L6 : L 6 = false := hk.2.2 6 rfl
   first | exact valR_row _ _ rfl _ rfl _ _ x _ Tryz.underlying27 rfl (by first | kernel_rfl | (rw [vfn_size]; kernel_rfl)) rfl | (have hc := x.cellIs (vfn_get _ (show 0 < 3 by omega)); go_simp; exact ⟨rfl, rfl⟩)
  refine stepD 1 rfl (fun p => rfl) (fun _ _ _ h => h) more ?_ ?_
  ·rintro p L w1 ⟨hsz, hB, y, v, qv, r1, r2, l, x, h_tw⟩ hk
   go_simp
   refine (LM.out _).mono ?_
   rintro e w2 ⟨rfl, h2⟩
   first | exact ⟨rfl, h2⟩ | (subst h2; exact ⟨rfl, Below.refl _ _⟩)
  iterate 3 (refine sVV ?_)
  refine AllI.cons ?_ ?_
  ·refine stepI_alloc 5 rfl (fun p => rfl) rfl (vfn fun _ => 0) 27 (fun p => rfl) ?_ ?_
   ·intro p w1
    go_simp
    first | rfl | rw [zero_vec]
   rintro p L w1 ⟨hsz, hB, y, v, qv, r1, r2, l, x, h_tw⟩ hk
   have L6 : L 6 = false := hk.2.2 6 rfl
   refine ⟨Nat.le_trans hsz (by simp), hB.alloc (Nat.le_trans (by first | exact hW0 | (have := hB.size; simp at this ⊢; omega)) hsz) _, y.alloc _, v.alloc _, qv.alloc _, r1.alloc _, r2.alloc _, l.alloc _, x.alloc _, fun _ => ⟨hsz, ?_⟩⟩
   rw [show upL L 5 6 = false from L6]
   exact blk.new _ _ _
  refine AllI.cons ?_ ?_
  ·refine stepI_store 6 rfl (fun p => rfl) (fun p => rfl) _ _ _ rfl (fun p => p 5) 0 (fun p => rfl) (fun p => (vfn To)) (fun p => rfl) (fun p => (vfn fun _ => 0)) (fun p => (vfn To)) 27 (fun p => over_v _ _) (fun p => by first | (rw [vfn_size, vfn_size]; decide) | simp [vfn_size, vfn_size]) (fun p => by rw [vfn_size]; kernel_rfl) (fun p => vfn_one _) ?_ ?_
   ·rintro p L w1 ⟨hsz, hB, y, v, qv, r1, r2, l, x, h_tw⟩ hk
    have L6 : L 6 = false := hk.1
    have hh := (h_tw (hk.2.1 5 rfl)).2
    rw [L6] at hh
    try simp only [cond_true, cond_false] at hh
    exact hh
   ·rintro p L w1 ⟨hsz, hB, y, v, qv, r1, r2, l, x, h_tw⟩ hk
    have L6 : L 6 = false := hk.1
    skip
    have hp := h_tw (hk.2.1 5 rfl)
    refine ⟨(by simpa using hsz), Below.setRow hB (by first | exact Nat.le_trans hW0 hp.1 | exact ge_tw | omega | (have := hB.size; simp at this ⊢; omega)) _, y.rowOther (by first | exact Nat.ne_of_lt (Nat.lt_of_lt_of_le lt_y hp.1) | omega) _, v.rowOther (by first | exact Nat.ne_of_lt (Nat.lt_of_lt_of_le lt_v hp.1) | omega) _, qv.rowOther (by first | exact Nat.ne_of_lt (Nat.lt_of_lt_of_le lt_qv hp.1) | omega) _, r1.rowOther (by first | exact Nat.ne_of_lt (Nat.lt_of_lt_of_le lt_r1 hp.1) | omega) _, r2.rowOther (by first | exact Nat.ne_of_lt (Nat.lt_of_lt_of_le lt_r2 hp.1) | omega) _, l.rowOther (by first | exact Nat.ne_of_lt (Nat.lt_of_lt_of_le lt_l hp.1) | omega) _, x.rowOther (by first | exact Nat.ne_of_lt (Nat.lt_of_lt_of_le lt_x hp.1) | omega) _, fun _ => ⟨hp.1, ?_⟩⟩
    rw [show upL L 6 6 = true from rfl]
    exact hp.2.row _
  refine sVV ?_
  exact AllI.nil
 case hV0 =>
  intro p q
  refine AllI.cons ?_ ?_
  ·skip
   iterate 8 (refine AllI.cons (by first | exact .inl rfl | (refine .inr ?_; simp only [gCZ, gCS]; done) | exact .inr rfl) ?_)
   exact AllI.nil
  exact AllI.nil
 case he =>
 clear hB y v qv r1 r2 l x
 rintro p wvrrr ⟨hsz, hB, y, v, qv, r1, r2, l, x, h_tw⟩
 obtain ⟨le_tw, tw⟩ := h_tw rfl
 clear h_tw
 replace tw : blk wvrrr (p 5) (vfn To) 27 := tw
 have ne_y_tw : w.heap.size ≠ p 5 := Nat.ne_of_lt (Nat.lt_of_lt_of_le lt_y le_tw)
 have ne_v_tw : (w.heap.size + 1) ≠ p 5 := Nat.ne_of_lt (Nat.lt_of_lt_of_le lt_v le_tw)
 have ne_qv_tw : (w.heap.size + 2) ≠ p 5 := Nat.ne_of_lt (Nat.lt_of_lt_of_le lt_qv le_tw)
 have ne_r1_tw : (w.heap.size + 3) ≠ p 5 := Nat.ne_of_lt (Nat.lt_of_lt_of_le lt_r1 le_tw)
 have ne_r2_tw : (w.heap.size + 4) ≠ p 5 := Nat.ne_of_lt (Nat.lt_of_lt_of_le lt_r2 le_tw)
 have ne_l_tw : l_b ≠ p 5 := Nat.ne_of_lt (Nat.lt_of_lt_of_le lt_l le_tw)
 have ne_x_tw : x_b ≠ p 5 := Nat.ne_of_lt (Nat.lt_of_lt_of_le lt_x le_tw)
 have ge_tw : w.heap.size ≤ p 5 := Nat.le_trans hW0 le_tw
 generalize p 5 = tw_b at *
 clear lt_y lt_v lt_qv lt_r1 lt_r2 lt_l lt_x hsz hW0 LM
 go_upto_region 7 with (fail)
 have lt_y := y.lt
 have lt_v := v.lt
 have lt_qv := qv.lt
 have lt_r1 := r1.lt
 have lt_r2 := r2.lt
 have lt_l := l.lt
 have lt_x := x.lt
 have lt_tw := tw.lt
 have hW0 : w.heap.size ≤ wvrrr.heap.size := by simpa using hB.size
 apply wp_region_Q 11 [0, 1, 3, 7, 15, 31, 63, 127, 255, 511, 1023] [7, 8] [_, _, _, _, _, _, _, (fun p => .pointer (some ⟨p 7, 0, none⟩)), (fun p => .pointer (some ⟨p 8, 0, none⟩)), (fun _ => undef), (fun _ => undef)] (fun p L w' => wvrrr.heap.size ≤ w'.heap.size ∧ Below w.heap.size w w' ∧ blk w' w.heap.size (rssc ⟨X.D, fun _ => 0, X.P, X.g⟩) 30 ∧ blk w' (w.heap.size + 1) (sec V) 33 ∧ blk w' (w.heap.size + 2) (qfn q) 31 ∧ blk w' (w.heap.size + 3) (rssc SSt.zero) 30 ∧ blk w' (w.heap.size + 4) (qfn fun _ => 0) 28 ∧ blk w' l_b (qfn Bt) 31 ∧ blk w' x_b (vfn Pv) 27 ∧ blk w' tw_b (vfn To) 27 ∧ (L 7 = true → wvrrr.heap.size ≤ p 7 ∧ blk w' (p 7) (bif L 9 then (rssc N) else (rssc SSt.zero)) 30) ∧ (L 8 = true → wvrrr.heap.size ≤ p 8 ∧ blk w' (p 8) (bif L 10 then (qfn C) else (qfn fun _ => 0)) 28) ∧ (L 7 = true → L 8 = true → p 7 ≠ p 8)) _ [(0, 53), (1, 54), (2, 55), (3, 56), (4, 52), (5, 57), (6, 58), (7, 14), (8, 15)] [0, 1, 2, 3, 4, 5, 6, 7, 8, 9, 10]
 case hn => rfl
 case hB => kernel_rfl
 case hds => kernel_rfl
 case hA => (intro p; simp only [putsD, Act.put, sIT, sCZ, sCS, gCZ, gCS]; exact rfl)
 case h0 => exact fun p => ⟨Nat.le_refl _, hB, y, v, qv, r1, r2, l, x, tw, fun h => absurd h (by decide), fun h => absurd h (by decide), fun h => absurd h (by decide)⟩
 case hmore => exact fun p L w1 w2 ⟨hsz, hB, y, v, qv, r1, r2, l, x, tw, h_n, h_c, hne_n_c⟩ hm => ⟨Nat.le_trans hsz hm.size, hB.trans (hm.mono (Nat.le_trans hW0 hsz)), y.below hm y.lt, v.below hm v.lt, qv.below hm qv.lt, r1.below hm r1.lt, r2.below hm r2.lt, l.below hm l.lt, x.below hm x.lt, tw.below hm tw.lt, fun hl => ⟨(h_n hl).1, (h_n hl).2.below hm (h_n hl).2.lt⟩, fun hl => ⟨(h_c hl).1, (h_c hl).2.below hm (h_c hl).2.lt⟩, hne_n_c⟩
 case hs =>
  intro more
  refine sWW ?_ ?_
  ·rintro p L w1 ⟨hsz, hB, y, v, qv, r1, r2, l, x, tw, h_n, h_c, hne_n_c⟩ hk
   have L9 : L 9 = false := hk.2.2 9 rfl
   have L10 : L 10 = false := hk.2.2 10 rfl
   first | exact valR_row _ _ rfl _ rfl _ _ y _ Tryz.underlying30 rfl (by first | kernel_rfl | (rw [rssc_size]; kernel_rfl)) rfl | (have hc := y.cellIs (show _[0]? = some _ from rfl); go_simp; exact ⟨rfl, rfl⟩)
  refine sWW ?_ ?_
  ·rintro p L w1 ⟨hsz, hB, y, v, qv, r1, r2, l, x, tw, h_n, h_c, hne_n_c⟩ hk
   have L9 : L 9 = false := hk.2.2 9 rfl
   have L10 : L 10 = false := hk.2.2 10 rfl
   first | exact valR_row _ _ rfl _ rfl _ _ v _ Tryz.underlying33 rfl (by first | kernel_rfl | (rw [sec_size]; kernel_rfl)) rfl | (have hc := v.cellIs (show _[0]? = some _ from rfl); go_simp; exact ⟨rfl, rfl⟩)
  refine sWW ?_ ?_
  ·rintro p L w1 ⟨hsz, hB, y, v, qv, r1, r2, l, x, tw, h_n, h_c, hne_n_c⟩ hk
   have L9 : L 9 = false := hk.2.2 9 rfl
   have L10 : L 10 = false := hk.2.2 10 rfl
   first | exact valR_row _ _ rfl _ rfl _ _ tw _ Tryz.underlying27 rfl (by first | kernel_rfl | (rw [vfn_size]; kernel_rfl)) rfl | (have hc := tw.cellIs (vfn_get _ (show 0 < 3 by omega)); go_simp; exact ⟨rfl, rfl⟩)
  refine stepD 3 rfl (fun p => rfl) (fun _ _ _ h => h) more ?_ ?_
  ·rintro p L w1 ⟨hsz, hB, y, v, qv, r1, r2, l, x, tw, h_n, h_c, hne_n_c⟩ hk
   go_simp
   refine (ST.out _).mono ?_
   rintro e w2 ⟨rfl, h2⟩
   first | exact ⟨rfl, h2⟩ | (subst h2; exact ⟨rfl, Below.refl _ _⟩)
  iterate 3 (refine sVV ?_)
  refine AllI.cons ?_ ?_
  ·refine stepI_alloc 7 rfl (fun p => rfl) rfl (rssc SSt.zero) 30 (fun p => rfl) ?_ ?_
   ·intro p w1
    go_simp
    first | rfl | rw [rssc_zero]
   rintro p L w1 ⟨hsz, hB, y, v, qv, r1, r2, l, x, tw, h_n, h_c, hne_n_c⟩ hk
   have L9 : L 9 = false := hk.2.2 9 rfl
   have L10 : L 10 = false := hk.2.2 10 rfl
   refine ⟨Nat.le_trans hsz (by simp), hB.alloc (Nat.le_trans (by first | exact hW0 | (have := hB.size; simp at this ⊢; omega)) hsz) _, y.alloc _, v.alloc _, qv.alloc _, r1.alloc _, r2.alloc _, l.alloc _, x.alloc _, tw.alloc _, fun _ => ⟨hsz, ?_⟩, fun hl => absurd hl (by rw [show upL L 7 8 = false from hk.2.2 8 rfl]; decide), fun _ hl => absurd hl (by rw [show upL L 7 8 = false from hk.2.2 8 rfl]; decide)⟩
   rw [show upL L 7 9 = false from L9]
   exact blk.new _ _ _
  refine AllI.cons ?_ ?_
  ·refine stepI_alloc 8 rfl (fun p => rfl) rfl (qfn fun _ => 0) 28 (fun p => rfl) ?_ ?_
   ·intro p w1
    go_simp
    first | rfl | rw [zero_spd]
   rintro p L w1 ⟨hsz, hB, y, v, qv, r1, r2, l, x, tw, h_n, h_c, hne_n_c⟩ hk
   have L9 : L 9 = false := hk.2.2 9 rfl
   have L10 : L 10 = false := hk.2.2 10 rfl
   refine ⟨Nat.le_trans hsz (by simp), hB.alloc (Nat.le_trans (by first | exact hW0 | (have := hB.size; simp at this ⊢; omega)) hsz) _, y.alloc _, v.alloc _, qv.alloc _, r1.alloc _, r2.alloc _, l.alloc _, x.alloc _, tw.alloc _, fun hl => ⟨(h_n hl).1, (h_n hl).2.alloc _⟩, fun _ => ⟨hsz, ?_⟩, fun hl _ => Nat.ne_of_lt (h_n hl).2.lt⟩
   rw [show upL L 8 10 = false from L10]
   exact blk.new _ _ _
  refine AllI.cons ?_ ?_
  ·refine stepI_store 9 rfl (fun p => rfl) (fun p => rfl) _ _ _ rfl (fun p => p 7) 0 (fun p => rfl) (fun p => (rssc N)) (fun p => rfl) (fun p => (rssc SSt.zero)) (fun p => (rssc N)) 30 (fun p => rsover _ _) (fun p => by first | (rw [rssc_size, rssc_size]; decide) | simp [rssc_size, rssc_size]) (fun p => by rw [rssc_size]; kernel_rfl) (fun p => rssc_one _) ?_ ?_
   ·rintro p L w1 ⟨hsz, hB, y, v, qv, r1, r2, l, x, tw, h_n, h_c, hne_n_c⟩ hk
    have L9 : L 9 = false := hk.1
    have L10 : L 10 = false := hk.2.2 10 rfl
    have hh := (h_n (hk.2.1 7 rfl)).2
    rw [L9] at hh
    try simp only [cond_true, cond_false] at hh
    exact hh
   ·rintro p L w1 ⟨hsz, hB, y, v, qv, r1, r2, l, x, tw, h_n, h_c, hne_n_c⟩ hk
    have L9 : L 9 = false := hk.1
    have L10 : L 10 = false := hk.2.2 10 rfl
    skip
    have hp := h_n (hk.2.1 7 rfl)
    refine ⟨(by simpa using hsz), Below.setRow hB (by first | exact Nat.le_trans hW0 hp.1 | exact ge_n | omega | (have := hB.size; simp at this ⊢; omega)) _, y.rowOther (by first | exact Nat.ne_of_lt (Nat.lt_of_lt_of_le lt_y hp.1) | omega) _, v.rowOther (by first | exact Nat.ne_of_lt (Nat.lt_of_lt_of_le lt_v hp.1) | omega) _, qv.rowOther (by first | exact Nat.ne_of_lt (Nat.lt_of_lt_of_le lt_qv hp.1) | omega) _, r1.rowOther (by first | exact Nat.ne_of_lt (Nat.lt_of_lt_of_le lt_r1 hp.1) | omega) _, r2.rowOther (by first | exact Nat.ne_of_lt (Nat.lt_of_lt_of_le lt_r2 hp.1) | omega) _, l.rowOther (by first | exact Nat.ne_of_lt (Nat.lt_of_lt_of_le lt_l hp.1) | omega) _, x.rowOther (by first | exact Nat.ne_of_lt (Nat.lt_of_lt_of_le lt_x hp.1) | omega) _, tw.rowOther (by first | exact Nat.ne_of_lt (Nat.lt_of_lt_of_le lt_tw hp.1) | omega) _, fun _ => ⟨hp.1, ?_⟩, fun hl => ⟨(h_c hl).1, (h_c hl).2.rowOther (Ne.symm (hne_n_c (hk.2.1 7 rfl) hl)) _⟩, hne_n_c⟩
    rw [show upL L 9 9 = true from rfl]
    exact hp.2.row _
  refine AllI.cons ?_ ?_
  ·refine stepI_store 10 rfl (fun p => rfl) (fun p => rfl) _ _ _ rfl (fun p => p 8) 0 (fun p => rfl) (fun p => (qfn C)) (fun p => rfl) (fun p => (qfn fun _ => 0)) (fun p => (qfn C)) 28 (fun p => over_qq _ _) (fun p => by first | (rw [qfn_size, qfn_size]; decide) | simp [qfn_size, qfn_size]) (fun p => by rw [qfn_size]; kernel_rfl) (fun p => qfn_one _) ?_ ?_
   ·rintro p L w1 ⟨hsz, hB, y, v, qv, r1, r2, l, x, tw, h_n, h_c, hne_n_c⟩ hk
    have L9 : L 9 = true := hk.2.1 9 rfl
    have L10 : L 10 = false := hk.1
    have hh := (h_c (hk.2.1 8 rfl)).2
    rw [L10] at hh
    try simp only [cond_true, cond_false] at hh
    exact hh
   ·rintro p L w1 ⟨hsz, hB, y, v, qv, r1, r2, l, x, tw, h_n, h_c, hne_n_c⟩ hk
    have L9 : L 9 = true := hk.2.1 9 rfl
    have L10 : L 10 = false := hk.1
    skip
    have hp := h_c (hk.2.1 8 rfl)
    refine ⟨(by simpa using hsz), Below.setRow hB (by first | exact Nat.le_trans hW0 hp.1 | exact ge_c | omega | (have := hB.size; simp at this ⊢; omega)) _, y.rowOther (by first | exact Nat.ne_of_lt (Nat.lt_of_lt_of_le lt_y hp.1) | omega) _, v.rowOther (by first | exact Nat.ne_of_lt (Nat.lt_of_lt_of_le lt_v hp.1) | omega) _, qv.rowOther (by first | exact Nat.ne_of_lt (Nat.lt_of_lt_of_le lt_qv hp.1) | omega) _, r1.rowOther (by first | exact Nat.ne_of_lt (Nat.lt_of_lt_of_le lt_r1 hp.1) | omega) _, r2.rowOther (by first | exact Nat.ne_of_lt (Nat.lt_of_lt_of_le lt_r2 hp.1) | omega) _, l.rowOther (by first | exact Nat.ne_of_lt (Nat.lt_of_lt_of_le lt_l hp.1) | omega) _, x.rowOther (by first | exact Nat.ne_of_lt (Nat.lt_of_lt_of_le lt_x hp.1) | omega) _, tw.rowOther (by first | exact Nat.ne_of_lt (Nat.lt_of_lt_of_le lt_tw hp.1) | omega) _, fun hl => ⟨(h_n hl).1, (h_n hl).2.rowOther (hne_n_c hl (hk.2.1 8 rfl)) _⟩, fun _ => ⟨hp.1, ?_⟩, hne_n_c⟩
    rw [show upL L 10 10 = true from rfl]
    exact hp.2.row _
  exact AllI.nil
 case hV0 =>
  intro p q
  refine AllI.cons ?_ ?_
  ·skip
   iterate 11 (refine AllI.cons (by first | exact .inl rfl | (refine .inr ?_; simp only [gCZ, gCS]; done) | exact .inr rfl) ?_)
   exact AllI.nil
  refine AllI.cons ?_ ?_
  ·skip
   iterate 11 (refine AllI.cons (by first | exact .inl rfl | (refine .inr ?_; simp only [gCZ, gCS]; done) | exact .inr rfl) ?_)
   exact AllI.nil
  exact AllI.nil
 case he =>
 clear hB y v qv r1 r2 l x tw
 rintro p wvrrrr ⟨hsz, hB, y, v, qv, r1, r2, l, x, tw, h_n, h_c, hne_n_c⟩
 obtain ⟨le_n, n⟩ := h_n rfl
 clear h_n
 obtain ⟨le_c, c⟩ := h_c rfl
 clear h_c
 have ne_n_c : p 7 ≠ p 8 := hne_n_c rfl rfl
 clear hne_n_c
 replace n : blk wvrrrr (p 7) (rssc N) 30 := n
 replace c : blk wvrrrr (p 8) (qfn C) 28 := c
 have ne_y_n : w.heap.size ≠ p 7 := Nat.ne_of_lt (Nat.lt_of_lt_of_le lt_y le_n)
 have ne_v_n : (w.heap.size + 1) ≠ p 7 := Nat.ne_of_lt (Nat.lt_of_lt_of_le lt_v le_n)
 have ne_qv_n : (w.heap.size + 2) ≠ p 7 := Nat.ne_of_lt (Nat.lt_of_lt_of_le lt_qv le_n)
 have ne_r1_n : (w.heap.size + 3) ≠ p 7 := Nat.ne_of_lt (Nat.lt_of_lt_of_le lt_r1 le_n)
 have ne_r2_n : (w.heap.size + 4) ≠ p 7 := Nat.ne_of_lt (Nat.lt_of_lt_of_le lt_r2 le_n)
 have ne_l_n : l_b ≠ p 7 := Nat.ne_of_lt (Nat.lt_of_lt_of_le lt_l le_n)
 have ne_x_n : x_b ≠ p 7 := Nat.ne_of_lt (Nat.lt_of_lt_of_le lt_x le_n)
 have ne_tw_n : tw_b ≠ p 7 := Nat.ne_of_lt (Nat.lt_of_lt_of_le lt_tw le_n)
 have ge_n : w.heap.size ≤ p 7 := Nat.le_trans hW0 le_n
 have ne_y_c : w.heap.size ≠ p 8 := Nat.ne_of_lt (Nat.lt_of_lt_of_le lt_y le_c)
 have ne_v_c : (w.heap.size + 1) ≠ p 8 := Nat.ne_of_lt (Nat.lt_of_lt_of_le lt_v le_c)
 have ne_qv_c : (w.heap.size + 2) ≠ p 8 := Nat.ne_of_lt (Nat.lt_of_lt_of_le lt_qv le_c)
 have ne_r1_c : (w.heap.size + 3) ≠ p 8 := Nat.ne_of_lt (Nat.lt_of_lt_of_le lt_r1 le_c)
 have ne_r2_c : (w.heap.size + 4) ≠ p 8 := Nat.ne_of_lt (Nat.lt_of_lt_of_le lt_r2 le_c)
 have ne_l_c : l_b ≠ p 8 := Nat.ne_of_lt (Nat.lt_of_lt_of_le lt_l le_c)
 have ne_x_c : x_b ≠ p 8 := Nat.ne_of_lt (Nat.lt_of_lt_of_le lt_x le_c)
 have ne_tw_c : tw_b ≠ p 8 := Nat.ne_of_lt (Nat.lt_of_lt_of_le lt_tw le_c)
 have ge_c : w.heap.size ≤ p 8 := Nat.le_trans hW0 le_c
 generalize p 7 = n_b at *
 generalize p 8 = c_b at *
 clear lt_y lt_v lt_qv lt_r1 lt_r2 lt_l lt_x lt_tw hsz hW0 ST
 go_upto_region 8 with (fail)
 have lt_y := y.lt
 have lt_v := v.lt
 have lt_qv := qv.lt
 have lt_r1 := r1.lt
 have lt_r2 := r2.lt
 have lt_l := l.lt
 have lt_x := x.lt
 have lt_tw := tw.lt
 have lt_n := n.lt
 have lt_c := c.lt
 have hW0 : w.heap.size ≤ wvrrrr.heap.size := by simpa using hB.size
 apply wp_region_I 5 [0, 0, 1, 7, 15] [] [_, _, (fun _ => undef), (fun _ => undef), _] (fun p L w' => wvrrrr.heap.size ≤ w'.heap.size ∧ Below w.heap.size w w' ∧ blk w' w.heap.size (rssc ⟨X.D, fun _ => 0, X.P, X.g⟩) 30 ∧ blk w' (w.heap.size + 1) (sec V) 33 ∧ blk w' (w.heap.size + 2) (qfn q) 31 ∧ blk w' (w.heap.size + 3) (bif L 2 then (rssc N) else (rssc SSt.zero)) 30 ∧ blk w' (w.heap.size + 4) (bif L 3 then (qfn C) else (qfn fun _ => 0)) 28 ∧ blk w' l_b (qfn Bt) 31 ∧ blk w' x_b (vfn Pv) 27 ∧ blk w' tw_b (vfn To) 27 ∧ blk w' n_b (rssc N) 30 ∧ blk w' c_b (qfn C) 28) _ [(0, 59), (1, 60), (4, 8)] [0, 1, 2, 3, 4]
 case hn => rfl
 case hm => kernel_rfl
 case hB => kernel_rfl
 case hds => kernel_rfl
 case hA => (intro p; simp only [putsD, Act.put, sIT, sCZ, sCS, gCZ, gCS]; exact rfl)
 case h0 => exact fun p => ⟨Nat.le_refl _, hB.drew, y.drew, v.drew, qv.drew, r1.drew, r2.drew, l.drew, x.drew, tw.drew, n.drew, c.drew⟩
 case hmore => exact fun p L w1 w2 ⟨hsz, hB, y, v, qv, r1, r2, l, x, tw, n, c⟩ hm => ⟨Nat.le_trans hsz hm.size, hB.trans (hm.mono (Nat.le_trans hW0 hsz)), y.below hm y.lt, v.below hm v.lt, qv.below hm qv.lt, r1.below hm r1.lt, r2.below hm r2.lt, l.below hm l.lt, x.below hm x.lt, tw.below hm tw.lt, n.below hm n.lt, c.below hm c.lt⟩
 case hs =>
  intro more
  refine sWW ?_ ?_
  ·rintro p L w1 ⟨hsz, hB, y, v, qv, r1, r2, l, x, tw, n, c⟩ hk
   have L2 : L 2 = false := hk.2.2 2 rfl
   have L3 : L 3 = false := hk.2.2 3 rfl
   first | exact valR_row _ _ rfl _ rfl _ _ n _ Tryz.underlying30 rfl (by first | kernel_rfl | (rw [rssc_size]; kernel_rfl)) rfl | (have hc := n.cellIs (show _[0]? = some _ from rfl); go_simp; exact ⟨rfl, rfl⟩)
  refine sWW ?_ ?_
  ·rintro p L w1 ⟨hsz, hB, y, v, qv, r1, r2, l, x, tw, n, c⟩ hk
   have L3 : L 3 = false := hk.2.2 3 rfl
   first | exact valR_row _ _ rfl _ rfl _ _ c _ Tryz.underlying28 rfl (by first | kernel_rfl | (rw [qfn_size]; kernel_rfl)) rfl | (have hc := c.cellIs (qfn_get _ (show 0 < 4 by omega)); go_simp; exact ⟨rfl, rfl⟩)
  refine AllI.cons ?_ ?_
  ·refine stepI_store 2 rfl (fun p => rfl) (fun p => rfl) _ _ _ rfl (fun _ => (w.heap.size + 3)) 0 (fun p => rfl) (fun p => (rssc N)) (fun p => rfl) (fun p => (rssc SSt.zero)) (fun p => (rssc N)) 30 (fun p => rsover _ _) (fun p => by first | (rw [rssc_size, rssc_size]; decide) | simp [rssc_size, rssc_size]) (fun p => by rw [rssc_size]; kernel_rfl) (fun p => rssc_one _) ?_ ?_
   ·rintro p L w1 ⟨hsz, hB, y, v, qv, r1, r2, l, x, tw, n, c⟩ hk
    have L2 : L 2 = false := hk.1
    have L3 : L 3 = false := hk.2.2 3 rfl
    rw [L2] at r1
    try simp only [cond_true, cond_false] at r1
    exact r1
   ·rintro p L w1 ⟨hsz, hB, y, v, qv, r1, r2, l, x, tw, n, c⟩ hk
    have L2 : L 2 = false := hk.1
    have L3 : L 3 = false := hk.2.2 3 rfl
    skip
    refine ⟨(by simpa using hsz), Below.setRow hB (by first | exact Nat.le_trans hW0 hp.1 | exact ge_r1 | omega | (have := hB.size; simp at this ⊢; omega)) _, y.rowOther (by first | exact ne_y_r1 | exact Ne.symm ne_r1_y | omega) _, v.rowOther (by first | exact ne_v_r1 | exact Ne.symm ne_r1_v | omega) _, qv.rowOther (by first | exact ne_qv_r1 | exact Ne.symm ne_r1_qv | omega) _, ?_, r2.rowOther (by first | exact ne_r2_r1 | exact Ne.symm ne_r1_r2 | omega) _, l.rowOther (Ne.symm ne_r1_l) _, x.rowOther (Ne.symm ne_r1_x) _, tw.rowOther (Ne.symm ne_r1_tw) _, n.rowOther (Ne.symm ne_r1_n) _, c.rowOther (Ne.symm ne_r1_c) _⟩
    rw [show upL L 2 2 = true from rfl]
    exact r1.row _
  refine AllI.cons ?_ ?_
  ·refine stepI_store 3 rfl (fun p => rfl) (fun p => rfl) _ _ _ rfl (fun _ => (w.heap.size + 4)) 0 (fun p => rfl) (fun p => (qfn C)) (fun p => rfl) (fun p => (qfn fun _ => 0)) (fun p => (qfn C)) 28 (fun p => over_qq _ _) (fun p => by first | (rw [qfn_size, qfn_size]; decide) | simp [qfn_size, qfn_size]) (fun p => by rw [qfn_size]; kernel_rfl) (fun p => qfn_one _) ?_ ?_
   ·rintro p L w1 ⟨hsz, hB, y, v, qv, r1, r2, l, x, tw, n, c⟩ hk
    have L2 : L 2 = true := hk.2.1 2 rfl
    have L3 : L 3 = false := hk.1
    rw [L3] at r2
    try simp only [cond_true, cond_false] at r2
    exact r2
   ·rintro p L w1 ⟨hsz, hB, y, v, qv, r1, r2, l, x, tw, n, c⟩ hk
    have L2 : L 2 = true := hk.2.1 2 rfl
    have L3 : L 3 = false := hk.1
    skip
    refine ⟨(by simpa using hsz), Below.setRow hB (by first | exact Nat.le_trans hW0 hp.1 | exact ge_r2 | omega | (have := hB.size; simp at this ⊢; omega)) _, y.rowOther (by first | exact ne_y_r2 | exact Ne.symm ne_r2_y | omega) _, v.rowOther (by first | exact ne_v_r2 | exact Ne.symm ne_r2_v | omega) _, qv.rowOther (by first | exact ne_qv_r2 | exact Ne.symm ne_r2_qv | omega) _, r1.rowOther (by first | exact ne_r1_r2 | exact Ne.symm ne_r2_r1 | omega) _, ?_, l.rowOther (Ne.symm ne_r2_l) _, x.rowOther (Ne.symm ne_r2_x) _, tw.rowOther (Ne.symm ne_r2_tw) _, n.rowOther (Ne.symm ne_r2_n) _, c.rowOther (Ne.symm ne_r2_c) _⟩
    rw [show upL L 3 3 = true from rfl]
    exact r2.row _
  refine sVV ?_
  exact AllI.nil
 case hV0 => exact fun p q => AllI.nil
 case he =>
 clear hB y v qv r1 r2 l x tw n c
 rintro p wvrrrrr ⟨hsz, hB, y, v, qv, r1, r2, l, x, tw, n, c⟩
 replace r1 : blk wvrrrrr (w.heap.size + 3) (rssc N) 30 := r1
 replace r2 : blk wvrrrrr (w.heap.size + 4) (qfn C) 28 := r2
 clear lt_y lt_v lt_qv lt_r1 lt_r2 lt_l lt_x lt_tw lt_n lt_c hsz hW0
 go_wp2_with (fail)
 refine bodyPost_ret (results_cct rfl _ _ _ _ _ _ _ _ _ _ _ _ rfl r1 rfl r2 Tryz.underlying30 rfl (by first | kernel_rfl | (rw [rssc_size]; kernel_rfl)) Tryz.underlying28 rfl (by first | kernel_rfl | (rw [qfn_size]; kernel_rfl))) rfl ?_
 refine ⟨?_, hB⟩
 rfl
theorem rsun_cases (X : SSt) (V : SeT) (hz : zV X.A = true → X.A = fun _ => 0) (A1 A2 : Nat → Int) (h1 : A1 = sunA1 X V (arrB X V)) (h2 : A2 = sunA X V (arrB X V)) :
 (zV X.A = true ∧ arrB X V = false ∧ True ∧ True ∧ A1 = X.A ∧ zV A1 = true ∧ True ∧ True ∧ True ∧ True ∧ A2 = A1 ∧ Flg 0 ∧ Flg 0 ∧ Flg 0 ∧ Flg 0 ∧ Flg 0 ∧ Flg 1 ∧ Flg 0 ∧ Flg 0 ∧ Flg 0 ∧ Flg 0) ∨
 (zV X.A = true ∧ arrB X V = true ∧ True ∧ True ∧ A1 = X.A ∧ zV A1 = true ∧ zV X.D = false ∧ True ∧ True ∧ True ∧ A2 = A1 ∧ Flg 0 ∧ Flg 0 ∧ Flg 0 ∧ Flg 0 ∧ Flg 0 ∧ Flg 1 ∧ Flg 1 ∧ Flg 0 ∧ Flg 0 ∧ Flg 0) ∨
 (zV X.A = true ∧ arrB X V = true ∧ True ∧ True ∧ A1 = X.A ∧ zV A1 = true ∧ zV X.D = true ∧ zV V.rate = false ∧ True ∧ True ∧ A2 = A1 ∧ Flg 0 ∧ Flg 0 ∧ Flg 0 ∧ Flg 0 ∧ Flg 0 ∧ Flg 1 ∧ Flg 1 ∧ Flg 1 ∧ Flg 0 ∧ Flg 0) ∨
 (zV X.A = true ∧ arrB X V = true ∧ zV V.sun = true ∧ True ∧ A1 = X.A ∧ zV A1 = true ∧ zV X.D = true ∧ zV V.rate = true ∧ True ∧ True ∧ A2 = A1 ∧ Flg 0 ∧ Flg 0 ∧ Flg 0 ∧ Flg 0 ∧ Flg 0 ∧ Flg 1 ∧ Flg 1 ∧ Flg 1 ∧ Flg 1 ∧ Flg 0) ∨
 (zV X.A = true ∧ arrB X V = true ∧ zV V.sun = false ∧ True ∧ A1 = X.A ∧ zV A1 = true ∧ zV X.D = true ∧ zV V.rate = true ∧ decide (4 * V.sun 2 < 3221225472) = false ∧ True ∧ A2 = A1 ∧ Flg 0 ∧ Flg 0 ∧ Flg 0 ∧ Flg 0 ∧ Flg 0 ∧ Flg 1 ∧ Flg 1 ∧ Flg 1 ∧ Flg 1 ∧ Flg 1) ∨
 (zV X.A = true ∧ arrB X V = true ∧ zV V.sun = false ∧ True ∧ A1 = X.A ∧ zV A1 = true ∧ zV X.D = true ∧ zV V.rate = true ∧ decide (4 * V.sun 2 < 3221225472) = true ∧ acrN V.sun = true ∧ A2 = of3 1073741824 0 0 ∧ Flg 0 ∧ Flg 1 ∧ Flg 0 ∧ Flg 0 ∧ Flg 0 ∧ Flg 1 ∧ Flg 1 ∧ Flg 1 ∧ Flg 1 ∧ Flg 1) ∨
 (zV X.A = true ∧ arrB X V = true ∧ zV V.sun = false ∧ True ∧ A1 = X.A ∧ zV A1 = true ∧ zV X.D = true ∧ zV V.rate = true ∧ decide (4 * V.sun 2 < 3221225472) = true ∧ acrN V.sun = false ∧ A2 = vunF (acrX V.sun) ∧ Flg 0 ∧ Flg 2 ∧ Flg 0 ∧ Flg 0 ∧ Flg 0 ∧ Flg 1 ∧ Flg 1 ∧ Flg 1 ∧ Flg 1 ∧ Flg 1) ∨
 (zV X.A = false ∧ arrB X V = false ∧ True ∧ True ∧ A1 = (fun _ => 0) ∧ zV A1 = true ∧ True ∧ True ∧ True ∧ True ∧ A2 = A1 ∧ Flg 1 ∧ Flg 0 ∧ Flg 1 ∧ Flg 0 ∧ Flg 0 ∧ Flg 1 ∧ Flg 0 ∧ Flg 0 ∧ Flg 0 ∧ Flg 0) ∨
 (zV X.A = false ∧ arrB X V = true ∧ zV V.sun = true ∧ True ∧ A1 = (fun _ => 0) ∧ zV A1 = true ∧ zV X.D = false ∧ True ∧ True ∧ True ∧ A2 = A1 ∧ Flg 1 ∧ Flg 0 ∧ Flg 1 ∧ Flg 1 ∧ Flg 0 ∧ Flg 1 ∧ Flg 1 ∧ Flg 0 ∧ Flg 0 ∧ Flg 0) ∨
 (zV X.A = false ∧ arrB X V = true ∧ zV V.sun = true ∧ True ∧ A1 = (fun _ => 0) ∧ zV A1 = true ∧ zV X.D = true ∧ zV V.rate = false ∧ True ∧ True ∧ A2 = A1 ∧ Flg 1 ∧ Flg 0 ∧ Flg 1 ∧ Flg 1 ∧ Flg 0 ∧ Flg 1 ∧ Flg 1 ∧ Flg 1 ∧ Flg 0 ∧ Flg 0) ∨
 (zV X.A = false ∧ arrB X V = true ∧ zV V.sun = true ∧ True ∧ A1 = (fun _ => 0) ∧ zV A1 = true ∧ zV X.D = true ∧ zV V.rate = true ∧ True ∧ True ∧ A2 = A1 ∧ Flg 1 ∧ Flg 0 ∧ Flg 1 ∧ Flg 1 ∧ Flg 0 ∧ Flg 1 ∧ Flg 1 ∧ Flg 1 ∧ Flg 1 ∧ Flg 0) ∨
 (zV X.A = false ∧ arrB X V = true ∧ zV V.sun = false ∧ decide (7516192768 ≤ 8 * V.sun 2) = true ∧ A1 = (fun _ => 0) ∧ zV A1 = true ∧ zV X.D = false ∧ True ∧ True ∧ True ∧ A2 = A1 ∧ Flg 1 ∧ Flg 0 ∧ Flg 1 ∧ Flg 1 ∧ Flg 1 ∧ Flg 1 ∧ Flg 1 ∧ Flg 0 ∧ Flg 0 ∧ Flg 0) ∨
 (zV X.A = false ∧ arrB X V = true ∧ zV V.sun = false ∧ decide (7516192768 ≤ 8 * V.sun 2) = true ∧ A1 = (fun _ => 0) ∧ zV A1 = true ∧ zV X.D = true ∧ zV V.rate = false ∧ True ∧ True ∧ A2 = A1 ∧ Flg 1 ∧ Flg 0 ∧ Flg 1 ∧ Flg 1 ∧ Flg 1 ∧ Flg 1 ∧ Flg 1 ∧ Flg 1 ∧ Flg 0 ∧ Flg 0) ∨
 (zV X.A = false ∧ arrB X V = true ∧ zV V.sun = false ∧ decide (7516192768 ≤ 8 * V.sun 2) = true ∧ A1 = (fun _ => 0) ∧ zV A1 = true ∧ zV X.D = true ∧ zV V.rate = true ∧ decide (4 * V.sun 2 < 3221225472) = false ∧ True ∧ A2 = A1 ∧ Flg 1 ∧ Flg 0 ∧ Flg 1 ∧ Flg 1 ∧ Flg 1 ∧ Flg 1 ∧ Flg 1 ∧ Flg 1 ∧ Flg 1 ∧ Flg 1) ∨
 (zV X.A = false ∧ arrB X V = true ∧ zV V.sun = false ∧ decide (7516192768 ≤ 8 * V.sun 2) = false ∧ A1 = X.A ∧ zV A1 = false ∧ True ∧ True ∧ True ∧ True ∧ A2 = A1 ∧ Flg 0 ∧ Flg 0 ∧ Flg 1 ∧ Flg 1 ∧ Flg 1 ∧ Flg 0 ∧ Flg 0 ∧ Flg 0 ∧ Flg 0 ∧ Flg 0) := by
 have e1 : sunA X V (arrB X V) = if sunB X V (arrB X V) then acrF V.sun else A1 := by rw [h1]; rfl
 have e2 : sunB X V (arrB X V) = (zV A1 && (arrB X V && (zV X.D && (zV V.rate && (!zV V.sun && decide (V.sun 2 < 805306368)))))) := by rw [h1]; rfl
 have e3 : A1 = if (!arrB X V || (zV V.sun || decide (939524096 ≤ V.sun 2))) then fun _ => 0 else X.A := h1
 have e4 : acrF V.sun = if acrN V.sun then of3 1073741824 0 0 else vunF (acrX V.sun) := rfl
 rw [e1, e2, e4] at h2
 clear e1 e2 e4 h1
 have hx : decide (939524096 ≤ V.sun 2) = true → decide (V.sun 2 < 805306368) = false := fun h => by
  have := of_decide_eq_true h
  exact decide_eq_false (by omega)
 have g8 : decide (7516192768 ≤ 8 * V.sun 2) = decide (939524096 ≤ V.sun 2) := decide_eq_decide.2 (by omega)
 have l4 : decide (4 * V.sun 2 < 3221225472) = decide (V.sun 2 < 805306368) := decide_eq_decide.2 (by omega)
 rw [g8, l4]
 clear g8 l4
 obtain ⟨zA, hzA⟩ : ∃ b, zV X.A = b := ⟨_, rfl⟩
 rw [hzA] at hz
 rw [hzA]
 generalize X.A = XA at *
 generalize decide (939524096 ≤ V.sun 2) = ge at *
 generalize decide (V.sun 2 < 805306368) = lt at *
 generalize acrN V.sun = bN at *
 generalize vunF (acrX V.sun) = U at *
 generalize of3 1073741824 0 0 = K at *
 generalize arrB X V = a at *
 generalize zV V.sun = s0 at *
 generalize zV X.D = d at *
 generalize zV V.rate = r at *
 have z0 := zV_zero
 cases zA
 case true =>
  obtain rfl := hz rfl
  cases a
  case true =>
   cases d
   case true =>
    cases r
    case true =>
     cases s0
     case true =>
      have q1 : A1 = (fun _ => 0) := by rw [e3]; simp
      have q2 : zV A1 = true := by rw [q1]; exact z0
      have q3 : A2 = A1 := by rw [h2, q2]; simp
      exact Or.inr (Or.inr (Or.inr (Or.inl ⟨rfl, rfl, rfl, trivial, q1, q2, rfl, rfl, trivial, trivial, q3, ⟨trivial⟩, ⟨trivial⟩, ⟨trivial⟩, ⟨trivial⟩, ⟨trivial⟩, ⟨trivial⟩, ⟨trivial⟩, ⟨trivial⟩, ⟨trivial⟩, ⟨trivial⟩⟩)))
     case false =>
      cases lt
      case true =>
       cases bN
       case true =>
        have q1 : A1 = (fun _ => 0) := by rw [e3]; simp
        have q2 : zV A1 = true := by rw [q1]; exact z0
        have q3 : A2 = K := by rw [h2, q2]; simp
        exact Or.inr (Or.inr (Or.inr (Or.inr (Or.inr (Or.inl ⟨rfl, rfl, rfl, trivial, q1, q2, rfl, rfl, rfl, rfl, q3, ⟨trivial⟩, ⟨trivial⟩, ⟨trivial⟩, ⟨trivial⟩, ⟨trivial⟩, ⟨trivial⟩, ⟨trivial⟩, ⟨trivial⟩, ⟨trivial⟩, ⟨trivial⟩⟩)))))
       case false =>
        have q1 : A1 = (fun _ => 0) := by rw [e3]; simp
        have q2 : zV A1 = true := by rw [q1]; exact z0
        have q3 : A2 = U := by rw [h2, q2]; simp
        exact Or.inr (Or.inr (Or.inr (Or.inr (Or.inr (Or.inr (Or.inl ⟨rfl, rfl, rfl, trivial, q1, q2, rfl, rfl, rfl, rfl, q3, ⟨trivial⟩, ⟨trivial⟩, ⟨trivial⟩, ⟨trivial⟩, ⟨trivial⟩, ⟨trivial⟩, ⟨trivial⟩, ⟨trivial⟩, ⟨trivial⟩, ⟨trivial⟩⟩))))))
      case false =>
       have q1 : A1 = (fun _ => 0) := by rw [e3]; simp
       have q2 : zV A1 = true := by rw [q1]; exact z0
       have q3 : A2 = A1 := by rw [h2, q2]; simp
       exact Or.inr (Or.inr (Or.inr (Or.inr (Or.inl ⟨rfl, rfl, rfl, trivial, q1, q2, rfl, rfl, rfl, trivial, q3, ⟨trivial⟩, ⟨trivial⟩, ⟨trivial⟩, ⟨trivial⟩, ⟨trivial⟩, ⟨trivial⟩, ⟨trivial⟩, ⟨trivial⟩, ⟨trivial⟩, ⟨trivial⟩⟩))))
    case false =>
     have q1 : A1 = (fun _ => 0) := by rw [e3]; simp
     have q2 : zV A1 = true := by rw [q1]; exact z0
     have q3 : A2 = A1 := by rw [h2, q2]; simp
     exact Or.inr (Or.inr (Or.inl ⟨rfl, rfl, trivial, trivial, q1, q2, rfl, rfl, trivial, trivial, q3, ⟨trivial⟩, ⟨trivial⟩, ⟨trivial⟩, ⟨trivial⟩, ⟨trivial⟩, ⟨trivial⟩, ⟨trivial⟩, ⟨trivial⟩, ⟨trivial⟩, ⟨trivial⟩⟩))
   case false =>
    have q1 : A1 = (fun _ => 0) := by rw [e3]; simp
    have q2 : zV A1 = true := by rw [q1]; exact z0
    have q3 : A2 = A1 := by rw [h2, q2]; simp
    exact Or.inr (Or.inl ⟨rfl, rfl, trivial, trivial, q1, q2, rfl, trivial, trivial, trivial, q3, ⟨trivial⟩, ⟨trivial⟩, ⟨trivial⟩, ⟨trivial⟩, ⟨trivial⟩, ⟨trivial⟩, ⟨trivial⟩, ⟨trivial⟩, ⟨trivial⟩, ⟨trivial⟩⟩)
  case false =>
   have q1 : A1 = (fun _ => 0) := by rw [e3]; simp
   have q2 : zV A1 = true := by rw [q1]; exact z0
   have q3 : A2 = A1 := by rw [h2, q2]; simp
   exact Or.inl ⟨rfl, rfl, trivial, trivial, q1, q2, trivial, trivial, trivial, trivial, q3, ⟨trivial⟩, ⟨trivial⟩, ⟨trivial⟩, ⟨trivial⟩, ⟨trivial⟩, ⟨trivial⟩, ⟨trivial⟩, ⟨trivial⟩, ⟨trivial⟩, ⟨trivial⟩⟩
 case false =>
  cases a
  case true =>
   cases s0
   case true =>
    cases d
    case true =>
     cases r
     case true =>
      have q1 : A1 = (fun _ => 0) := by rw [e3]; simp
      have q2 : zV A1 = true := by rw [q1]; exact z0
      have q3 : A2 = A1 := by rw [h2, q2]; simp
      exact Or.inr (Or.inr (Or.inr (Or.inr (Or.inr (Or.inr (Or.inr (Or.inr (Or.inr (Or.inr (Or.inl ⟨rfl, rfl, rfl, trivial, q1, q2, rfl, rfl, trivial, trivial, q3, ⟨trivial⟩, ⟨trivial⟩, ⟨trivial⟩, ⟨trivial⟩, ⟨trivial⟩, ⟨trivial⟩, ⟨trivial⟩, ⟨trivial⟩, ⟨trivial⟩, ⟨trivial⟩⟩))))))))))
     case false =>
      have q1 : A1 = (fun _ => 0) := by rw [e3]; simp
      have q2 : zV A1 = true := by rw [q1]; exact z0
      have q3 : A2 = A1 := by rw [h2, q2]; simp
      exact Or.inr (Or.inr (Or.inr (Or.inr (Or.inr (Or.inr (Or.inr (Or.inr (Or.inr (Or.inl ⟨rfl, rfl, rfl, trivial, q1, q2, rfl, rfl, trivial, trivial, q3, ⟨trivial⟩, ⟨trivial⟩, ⟨trivial⟩, ⟨trivial⟩, ⟨trivial⟩, ⟨trivial⟩, ⟨trivial⟩, ⟨trivial⟩, ⟨trivial⟩, ⟨trivial⟩⟩)))))))))
    case false =>
     have q1 : A1 = (fun _ => 0) := by rw [e3]; simp
     have q2 : zV A1 = true := by rw [q1]; exact z0
     have q3 : A2 = A1 := by rw [h2, q2]; simp
     exact Or.inr (Or.inr (Or.inr (Or.inr (Or.inr (Or.inr (Or.inr (Or.inr (Or.inl ⟨rfl, rfl, rfl, trivial, q1, q2, rfl, trivial, trivial, trivial, q3, ⟨trivial⟩, ⟨trivial⟩, ⟨trivial⟩, ⟨trivial⟩, ⟨trivial⟩, ⟨trivial⟩, ⟨trivial⟩, ⟨trivial⟩, ⟨trivial⟩, ⟨trivial⟩⟩))))))))
   case false =>
    cases ge
    case true =>
     cases d
     case true =>
      cases r
      case true =>
       obtain rfl : lt = false := hx rfl
       have q1 : A1 = (fun _ => 0) := by rw [e3]; simp
       have q2 : zV A1 = true := by rw [q1]; exact z0
       have q3 : A2 = A1 := by rw [h2, q2]; simp
       exact Or.inr (Or.inr (Or.inr (Or.inr (Or.inr (Or.inr (Or.inr (Or.inr (Or.inr (Or.inr (Or.inr (Or.inr (Or.inr (Or.inl ⟨rfl, rfl, rfl, rfl, q1, q2, rfl, rfl, rfl, trivial, q3, ⟨trivial⟩, ⟨trivial⟩, ⟨trivial⟩, ⟨trivial⟩, ⟨trivial⟩, ⟨trivial⟩, ⟨trivial⟩, ⟨trivial⟩, ⟨trivial⟩, ⟨trivial⟩⟩)))))))))))))
      case false =>
       have q1 : A1 = (fun _ => 0) := by rw [e3]; simp
       have q2 : zV A1 = true := by rw [q1]; exact z0
       have q3 : A2 = A1 := by rw [h2, q2]; simp
       exact Or.inr (Or.inr (Or.inr (Or.inr (Or.inr (Or.inr (Or.inr (Or.inr (Or.inr (Or.inr (Or.inr (Or.inr (Or.inl ⟨rfl, rfl, rfl, rfl, q1, q2, rfl, rfl, trivial, trivial, q3, ⟨trivial⟩, ⟨trivial⟩, ⟨trivial⟩, ⟨trivial⟩, ⟨trivial⟩, ⟨trivial⟩, ⟨trivial⟩, ⟨trivial⟩, ⟨trivial⟩, ⟨trivial⟩⟩))))))))))))
     case false =>
      have q1 : A1 = (fun _ => 0) := by rw [e3]; simp
      have q2 : zV A1 = true := by rw [q1]; exact z0
      have q3 : A2 = A1 := by rw [h2, q2]; simp
      exact Or.inr (Or.inr (Or.inr (Or.inr (Or.inr (Or.inr (Or.inr (Or.inr (Or.inr (Or.inr (Or.inr (Or.inl ⟨rfl, rfl, rfl, rfl, q1, q2, rfl, trivial, trivial, trivial, q3, ⟨trivial⟩, ⟨trivial⟩, ⟨trivial⟩, ⟨trivial⟩, ⟨trivial⟩, ⟨trivial⟩, ⟨trivial⟩, ⟨trivial⟩, ⟨trivial⟩, ⟨trivial⟩⟩)))))))))))
    case false =>
     have q1 : A1 = XA := by rw [e3]; simp
     have q2 : zV A1 = false := by rw [q1]; exact hzA
     have q3 : A2 = A1 := by rw [h2, q2]; simp
     exact Or.inr (Or.inr (Or.inr (Or.inr (Or.inr (Or.inr (Or.inr (Or.inr (Or.inr (Or.inr (Or.inr (Or.inr (Or.inr (Or.inr (⟨rfl, rfl, rfl, rfl, q1, q2, trivial, trivial, trivial, trivial, q3, ⟨trivial⟩, ⟨trivial⟩, ⟨trivial⟩, ⟨trivial⟩, ⟨trivial⟩, ⟨trivial⟩, ⟨trivial⟩, ⟨trivial⟩, ⟨trivial⟩, ⟨trivial⟩⟩))))))))))))))
  case false =>
   have q1 : A1 = (fun _ => 0) := by rw [e3]; simp
   have q2 : zV A1 = true := by rw [q1]; exact z0
   have q3 : A2 = A1 := by rw [h2, q2]; simp
   exact Or.inr (Or.inr (Or.inr (Or.inr (Or.inr (Or.inr (Or.inr (Or.inl ⟨rfl, rfl, trivial, trivial, q1, q2, trivial, trivial, trivial, trivial, q3, ⟨trivial⟩, ⟨trivial⟩, ⟨trivial⟩, ⟨trivial⟩, ⟨trivial⟩, ⟨trivial⟩, ⟨trivial⟩, ⟨trivial⟩, ⟨trivial⟩, ⟨trivial⟩⟩)))))))
theorem rsun_any (X : SSt) (V : SeT) (w : World) (k : SSI X) (hz : zV X.A = true → X.A = fun _ => 0) : Calls Tryz.prog 13 #[.agg (rssc X), .agg (sec V)] w fun e w' => e = .returned (.tuple #[.agg (rssc (sunX X V)), .agg (qfn (sunC X V)), .int .i64 (okE (senseOk V))]) ∧ Below w.heap.size w w' := by
 unfold sunX sunC okE
 cases hk : senseOk V with
 | true =>
   refine rsun_ok X V (sunA1 X V (arrB X V)) (sunAx X V) w hk k.d (fun i hi => ?_) (fun i hi => ?_) (Lib.hid (rsun_cases X V hz _ _ rfl rfl))
   ·have : -4194304 ≤ vscaleF (sunAx X V) 4194304 i ∧ vscaleF (sunAx X V) 4194304 i ≤ 4194304 := sunT_le k V i hi
    omega
   ·have hk' := hk
    unfold senseOk at hk'
    simp only [Bool.and_eq_true] at hk'
    have := (sb_iff _ _).1 ((smallB_iff _ _).1 hk'.2.2 i hi)
    omega
 | false => exact rsun_no X V w hk
theorem rpoint_any (X : SSt) (V : SeT) (q : Nat → Int) (w : World) (k : SSI X) (ha : ∀ i, i < 4 → I64 (V.att i)) (hq : ∀ i, i < 4 → I64 (q i)) : Calls Tryz.prog 10 #[.agg (rssc X), .agg (sec V), .agg (qfn q)] w fun e w' => e = .returned (.tuple #[.agg (rssc (pointX X V q)), .agg (qfn (pointC X V q)), .int .i64 (okE (ptOk V q))]) ∧ Below w.heap.size w w' := by
 unfold pointX pointC okE ptOk
 cases hk : senseOk V with
 | true =>
   by_cases hE : betE V.att q = 0
   ·rw [decide_eq_true hE]
    exact rpoint_ok X V q w ha hq hk hE k.d (bet_le ha hq) (fun i hi => by have := ptTo_le (betF V.att q) i hi; omega)
   ·rw [decide_eq_false hE]
    exact rpoint_bad X V q w ha hq hk (betE_2 hE)
 | false => exact rpoint_no X V q w ha hq hk
def nrm (X : SSt) : SSt := ⟨X.D, if zV X.A then fun _ => 0 else X.A, X.P, X.g⟩
theorem nrm_A (X : SSt) (i : Nat) (hi : i < 3) : (nrm X).A i = X.A i := by
 unfold nrm
 show (if zV X.A then fun _ => 0 else X.A) i = X.A i
 cases h : zV X.A
 ·rfl
 ·unfold zV at h
  rw [List.all_eq_true] at h
  have := h i (List.mem_range.2 hi)
  show 0 = X.A i
  have := eq_of_beq this
  omega
theorem nrm_z (X : SSt) : zV (nrm X).A = true → (nrm X).A = fun _ => 0 := by
 unfold nrm
 show zV (if zV X.A then fun _ => 0 else X.A) = true → (if zV X.A then fun _ => 0 else X.A) = fun _ => 0
 cases h : zV X.A
 ·intro h2; rw [if_neg (by decide)] at h2; rw [h2] at h; cases h
 ·intro _; rfl
theorem nrm_s (X : SSt) : ssc (nrm X) = ssc X := by
 have h0 := nrm_A X 0 (by omega); have h1 := nrm_A X 1 (by omega); have h2 := nrm_A X 2 (by omega)
 unfold ssc; rw [h0, h1, h2]; rfl
theorem nrm_r (X : SSt) : rssc (nrm X) = rssc X := by
 have h0 := nrm_A X 0 (by omega); have h1 := nrm_A X 1 (by omega); have h2 := nrm_A X 2 (by omega)
 unfold rssc; rw [h0, h1, h2]; rfl
theorem nrm_I {X : SSt} (k : SSI X) : SSI (nrm X) := ⟨k.d, fun i hi => by rw [nrm_A X i hi]; exact k.a i hi⟩
theorem ssc_congr {X Y : SSt} (h1 : ∀ i, i < 3 → X.D i = Y.D i) (h2 : ∀ i, i < 3 → X.A i = Y.A i) (h3 : ∀ i, i < 4 → X.P i = Y.P i) (h4 : X.g = Y.g) : ssc X = ssc Y := by
 unfold ssc
 rw [h1 0 (by omega), h1 1 (by omega), h1 2 (by omega), h2 0 (by omega), h2 1 (by omega), h2 2 (by omega), h3 0 (by omega), h3 1 (by omega), h3 2 (by omega), h3 3 (by omega), h4]
def aw26_0 : SSt := ⟨(of3 0 0 0), (of3 0 0 0), (of4 0 0 0 0), false⟩
def aw26_1 : SSt := ⟨(of3 0 0 0), (of3 0 0 0), (of4 51 (-49) (-51) 49), true⟩
def aw26_2 : SSt := ⟨(of3 262144 0 0), (of3 1073741824 0 0), (of4 (-131022) 131022 131020 (-131022)), true⟩
theorem aw26_z : ssc SSt.zero = ssc aw26_0 := rfl
theorem aw26_r_c : qfn (stC aw26_0 (⟨(of3 400 0 (-8)), (of4 0 0 0 0), (-1), (of3 0 0 0), (of4 0 0 0 0)⟩ : SeT) (fun _ => 0)) = qfn (of4 51 (-49) (-51) 49) := qfn_congr (by decide +kernel)
theorem aw26_r_x : ssc (stX aw26_0 (⟨(of3 400 0 (-8)), (of4 0 0 0 0), (-1), (of3 0 0 0), (of4 0 0 0 0)⟩ : SeT) (fun _ => 0) (fun _ => 0)) = ssc aw26_1 := ssc_congr (by decide +kernel) (by decide +kernel) (by decide +kernel) (by decide +kernel)
theorem aw26_r_k (b : Nat) (w : World) (g : blk w b (ssc aw26_0) 65) : Calls Tryz.prog 7 #[.pointer (some ⟨b, 0, none⟩), .agg #[.int .i64 400, .int .i64 0, .int .i64 (-8), .int .i64 0, .int .i64 0, .int .i64 0, .int .i64 0, .int .i64 (-1), .int .i64 0, .int .i64 0, .int .i64 0, .int .i64 0, .int .i64 0, .int .i64 0, .int .i64 0]] w fun e w' => e = .returned (.tuple #[.agg (qfn (of4 51 (-49) (-51) 49)), .int .i64 0]) ∧ blk w' b (ssc aw26_1) 65 ∧ Save b b w w' := by
 rw [show #[.int .i64 400, .int .i64 0, .int .i64 (-8), .int .i64 0, .int .i64 0, .int .i64 0, .int .i64 0, .int .i64 (-1), .int .i64 0, .int .i64 0, .int .i64 0, .int .i64 0, .int .i64 0, .int .i64 0, .int .i64 0] = sec (⟨(of3 400 0 (-8)), (of4 0 0 0 0), (-1), (of3 0 0 0), (of4 0 0 0 0)⟩ : SeT) from rfl]
 refine (trest_ok aw26_0 (⟨(of3 400 0 (-8)), (of4 0 0 0 0), (-1), (of3 0 0 0), (of4 0 0 0 0)⟩ : SeT) b w g (by decide +kernel) (by decide +kernel)).mono ?_
 rintro e w' ⟨rfl, g2, hs⟩
 rw [aw26_r_c]
 rw [aw26_r_x] at g2
 exact ⟨rfl, g2, hs⟩
theorem aw26_s_c : qfn (stC aw26_1 (⟨(of3 0 0 0), (of4 51 (-49) (-51) 49), (-1), (of3 0 (-1073741824) 0), (of4 0 0 0 0)⟩ : SeT) (sunT aw26_1 (⟨(of3 0 0 0), (of4 51 (-49) (-51) 49), (-1), (of3 0 (-1073741824) 0), (of4 0 0 0 0)⟩ : SeT))) = qfn (of4 (-131073) 131071 131071 (-131071)) := qfn_congr (by decide +kernel)
theorem aw26_s_x : ssc (stX aw26_1 (⟨(of3 0 0 0), (of4 51 (-49) (-51) 49), (-1), (of3 0 (-1073741824) 0), (of4 0 0 0 0)⟩ : SeT) (sunAx aw26_1 (⟨(of3 0 0 0), (of4 51 (-49) (-51) 49), (-1), (of3 0 (-1073741824) 0), (of4 0 0 0 0)⟩ : SeT)) (sunT aw26_1 (⟨(of3 0 0 0), (of4 51 (-49) (-51) 49), (-1), (of3 0 (-1073741824) 0), (of4 0 0 0 0)⟩ : SeT))) = ssc aw26_2 := ssc_congr (by decide +kernel) (by decide +kernel) (by decide +kernel) (by decide +kernel)
theorem aw26_s_k (b : Nat) (w : World) (g : blk w b (ssc aw26_1) 65) : Calls Tryz.prog 12 #[.pointer (some ⟨b, 0, none⟩), .agg #[.int .i64 0, .int .i64 0, .int .i64 0, .int .i64 51, .int .i64 (-49), .int .i64 (-51), .int .i64 49, .int .i64 (-1), .int .i64 0, .int .i64 (-1073741824), .int .i64 0, .int .i64 0, .int .i64 0, .int .i64 0, .int .i64 0]] w fun e w' => e = .returned (.tuple #[.agg (qfn (of4 (-131073) 131071 131071 (-131071))), .int .i64 0]) ∧ blk w' b (ssc aw26_2) 65 ∧ Save b b w w' := by
 rw [show #[.int .i64 0, .int .i64 0, .int .i64 0, .int .i64 51, .int .i64 (-49), .int .i64 (-51), .int .i64 49, .int .i64 (-1), .int .i64 0, .int .i64 (-1073741824), .int .i64 0, .int .i64 0, .int .i64 0, .int .i64 0, .int .i64 0] = sec (⟨(of3 0 0 0), (of4 51 (-49) (-51) 49), (-1), (of3 0 (-1073741824) 0), (of4 0 0 0 0)⟩ : SeT) from rfl]
 refine (tsun_ok aw26_1 (⟨(of3 0 0 0), (of4 51 (-49) (-51) 49), (-1), (of3 0 (-1073741824) 0), (of4 0 0 0 0)⟩ : SeT) b w g (by decide +kernel) (by decide +kernel) (by decide +kernel)).mono ?_
 rintro e w' ⟨rfl, g2, hs⟩
 rw [aw26_s_c]
 rw [aw26_s_x] at g2
 exact ⟨rfl, g2, hs⟩
set_option maxHeartbeats 8000000 in
theorem awake26_any  (w : World) : Calls Tryz.prog 5 #[] w fun e w' => e = .returned (.bool true) ∧ Below w.heap.size w w' := by
 have hB : Below w.heap.size w w := Below.refl _ _
 have NW := Lib.hid (fun w => tnew_any w)
 rw [aw26_z] at NW
 have RE := Lib.hid aw26_r_k
 have SU := Lib.hid aw26_s_k
 have CO := Lib.hid (fun b w (g : blk w b (ssc aw26_2) 65) => tcmd_any aw26_2 b w g)
 rw [show aw26_2.D = of3 262144 0 0 from rfl] at CO
 have E1 : ∀ w, (Op.equalIn 10000 28 (.agg (qfn (of4 51 (-49) (-51) 49))) (.agg #[.int .i64 51, .int .i64 (-49), .int .i64 (-51), .int .i64 49])).run Tryz.prog w = .ok true w := fun w => by rw [of4_cells, spdq_eq]; first | (congr 1; done) | (congr 1; simp)
 have E2 : ∀ w, (Op.equalIn 10000 28 (.agg (qfn (of4 (-131073) 131071 131071 (-131071)))) (.agg #[.int .i64 (-131073), .int .i64 131071, .int .i64 131071, .int .i64 (-131071)])).run Tryz.prog w = .ok true w := fun w => by rw [of4_cells, spdq_eq]; first | (congr 1; done) | (congr 1; simp)
 have E3 : ∀ w, (Op.equalIn 10000 27 (.agg (vfn (of3 262144 0 0))) (.agg #[.int .i64 262144, .int .i64 0, .int .i64 0])).run Tryz.prog w = .ok true w := fun w => by rw [of3_cells]; exact vec_eq_self _ w
 go_enter Tryz.func5, Tryz.ntmps5
 go_upto_region 4 with ((go_at_call 6; with_reducible refine (NW.out _).mono ?_; rintro e w1 ⟨gb, rfl, g, hle, hb⟩; replace hB := hB.trans (hb.mono hB.size); clear hb))
 clear NW
 go_upto_region 5 with (first | (go_at_call 7; with_reducible refine (RE.out _ _ g).mono ?_; rintro e w2 ⟨rfl, g2, hS⟩; replace hB := hB.trans (hS.below hB.size hle); replace g := g2; clear g2 hS) | (rw [zero_spd]; refine wpList_store_row rfl _ _ _ rfl _ rfl _ rfl _ _ (blk.new _ _ _) (by first | kernel_rfl | (rw [qfn_size]; kernel_rfl)) (by first | rfl | simp only [qfn_size]) (by first | exact qfn_one _ | rfl) ?_))
 have gl := g.lt
 have a := (blk.new w2 (qfn fun _ => 0) 28).row (qfn (of4 51 (-49) (-51) 49))
 replace hB := Below.setRow (hB.alloc hB.size (.cells (qfn fun _ => 0) 28)) (g := w2.heap.size) hB.size (qfn (of4 51 (-49) (-51) 49))
 have hne : ∀ x, x < w2.heap.size → x ≠ w2.heap.size := fun x hx => Nat.ne_of_lt hx
 replace g := (g.alloc (.cells (qfn fun _ => 0) 28)).rowOther (hne _ g.lt) (qfn (of4 51 (-49) (-51) 49))
 clear hne
 generalize (w2.alloc (.cells (qfn fun _ => 0) 28)).setRow w2.heap.size (qfn (of4 51 (-49) (-51) 49)) = w2x at *
 generalize w2.heap.size = a_b at *
 have out_a : gb < a_b := gl
 clear RE gl
 rw [← of4_cells] at a
 go_upto_region 6 with (first | (refine wpList_load_rowG ?hw _ _ rfl _ rfl _ _ _ _ a Tryz.underlying28 rfl ?hi ?_; (case hw => (first | rfl | (simp [Region.wanted, yielded]; done))); (case hi => kernel_rfl)) | (go_at_call 12; with_reducible refine (SU.out _ _ g).mono ?_; rintro e w3 ⟨rfl, g2, hS⟩; replace hB := hB.trans (hS.below hB.size hle); replace a := a.save hS (.inr out_a); replace g := g2; clear g2 hS) | (rw [zero_spd]; refine wpList_store_row rfl _ _ _ rfl _ rfl _ rfl _ _ (blk.new _ _ _) (by first | kernel_rfl | (rw [qfn_size]; kernel_rfl)) (by first | rfl | simp only [qfn_size]) (by first | exact qfn_one _ | rfl) ?_))
 rw [of4_cells] at a
 have gl := g.lt
 have c := (blk.new w3 (qfn fun _ => 0) 28).row (qfn (of4 (-131073) 131071 131071 (-131071)))
 replace hB := Below.setRow (hB.alloc hB.size (.cells (qfn fun _ => 0) 28)) (g := w3.heap.size) hB.size (qfn (of4 (-131073) 131071 131071 (-131071)))
 have hne : ∀ x, x < w3.heap.size → x ≠ w3.heap.size := fun x hx => Nat.ne_of_lt hx
 replace g := (g.alloc (.cells (qfn fun _ => 0) 28)).rowOther (hne _ g.lt) (qfn (of4 (-131073) 131071 131071 (-131071)))
 replace a := (a.alloc (.cells (qfn fun _ => 0) 28)).rowOther (hne _ a.lt) (qfn (of4 (-131073) 131071 131071 (-131071)))
 clear hne
 generalize (w3.alloc (.cells (qfn fun _ => 0) 28)).setRow w3.heap.size (qfn (of4 (-131073) 131071 131071 (-131071))) = w3x at *
 generalize w3.heap.size = c_b at *
 have out_c : gb < c_b := gl
 clear SU gl
 go_wp2_with (first
  | (refine wpList_load_rowG ?hw _ _ rfl _ rfl _ _ _ _ a Tryz.underlying28 rfl ?hi ?_; (case hw => (first | rfl | (simp [Region.wanted, yielded]; done))); (case hi => (first | kernel_rfl | (rw [qfn_size]; kernel_rfl))))
  | (refine wpList_load_rowG ?hw _ _ rfl _ rfl _ _ _ _ c Tryz.underlying28 rfl ?hi ?_; (case hw => (first | rfl | (simp [Region.wanted, yielded]; done))); (case hi => (first | kernel_rfl | (rw [qfn_size]; kernel_rfl))))
  | (go_at_call 14; with_reducible refine (CO.out _ _ g).mono ?_; rintro e w4 ⟨rfl, hb⟩; replace hB := hB.trans (hb.mono hB.size); replace g := g.below hb g.lt; replace a := a.below hb a.lt; replace c := c.below hb c.lt; clear hb))
 go_ret
 exact ⟨rfl, hB⟩
theorem six {p : Prop} {z : Int} (h0 : z = 0 → p) (h1 : z = 1 → p) (h2 : z = 2 → p) (h3 : z = 3 → p) (h7 : z = 7 → p) (hs : ¬ z = 0 → ¬ z = 1 → ¬ z = 2 → ¬ z = 3 → ¬ z = 7 → p) : p := by
 by_cases k0 : z = 0
 ·exact h0 k0
 ·by_cases k1 : z = 1
  ·exact h1 k1
  ·by_cases k2 : z = 2
   ·exact h2 k2
   ·by_cases k3 : z = 3
    ·exact h3 k3
    ·by_cases k7 : z = 7
     ·exact h7 k7
     ·exact hs k0 k1 k2 k3 k7
theorem ss_over (X Y : SSt) : over (ssc X) 0 (rssc Y).toList = ssc Y := by
 unfold ssc rssc
 simp [over]
set_option maxHeartbeats 2000000 in
theorem treset_any (X : SSt) (b : Nat) (w : World) (hg : blk w b (ssc X) 65) : Calls Tryz.prog 11 #[.pointer (some ⟨b, 0, none⟩)] w fun e w' => e = .returned (.tuple #[]) ∧ Below w.heap.size (w.setRow b (ssc SSt.zero)) w' := by
 have NN := Lib.hid (fun w' (hb : Below w.heap.size w w') => tnone_any X b w' (hg.below hb hg.lt))
 have hB : Below w.heap.size w w := Below.refl _ _
 rw [← ss_over X SSt.zero]
 go_enter Tryz.func11, Tryz.ntmps11
 go_wp2_with (first | (go_at_call 26; with_reducible refine (NN.out _ hB).mono ?_; rintro e w9 ⟨rfl, rfl⟩) | (refine wpList_store_part (by first | rfl | (simp [Region.wanted, yielded]; done)) _ _ _ rfl _ _ rfl (rssc SSt.zero) rfl _ _ hg (by rw [rssc_size, ssc_size]; decide) (by first | kernel_rfl | (rw [rssc_size]; kernel_rfl)) (rssc_one _) ?_))
 go_end0
 exact ⟨rfl, Below.refl _ _⟩
set_option maxHeartbeats 2000000 in
theorem splays_no (a : Option Addr) (n c : Nat) (w : World) (hn : 60 < n) : Calls Tryz.prog 3 #[.slice a n c] w fun e w' => e = .returned (.bool true) ∧ Below w.heap.size w w' := by
 have AW := Lib.hid (fun w => awake26_any w)
 have d1 : decide ((60 : Int) < (n : Int)) = true := decide_eq_true (by omega)
 have d2 : decide (60 < n) = true := decide_eq_true hn
 have hB : Below w.heap.size w w := Below.refl _ _
 go_enter Tryz.func3, Tryz.ntmps3
 go_wp2_with (first
  | (go_at_call 5; with_reducible refine (AW.out _).mono ?_; rintro e w1 ⟨rfl, hb⟩; replace hB := hB.trans (hb.mono hB.size); clear hb))
 go_ret
 exact ⟨rfl, hB⟩
set_option maxHeartbeats 40000000 in
theorem splays_ok (a : Option Addr) (n c : Nat) (x : Nat → (Int × SeT × (Nat → Int))) (w : World) (hn : n ≤ 60) (el : ElemsA w a n 20 (fun k => (a26c (x k)).toList)) (hx : ∀ k, k < n → (∀ i, i < 4 → I64 ((x k).2.1.att i)) ∧ ∀ i, i < 4 → I64 ((x k).2.2 i))  : Calls Tryz.prog 3 #[.slice a n c] w fun e w' => e = .returned (.bool true) ∧ Below w.heap.size w w' := by
 have AW := Lib.hid (fun w => awake26_any w)
 have d1 : decide ((60 : Int) < (n : Int)) = false := decide_eq_false (by omega)
 have d2 : decide (60 < n) = false := decide_eq_false (by omega)
 have NW := Lib.hid (fun w => tnew_any w)
 have K0 : SSI SSt.zero := ⟨fun i hi => z0 (N := 4194304) (by decide), fun i hi => z0 (N := 1073741824) (by decide)⟩
 replace K0 := Lib.hid K0
 replace el := Lib.hid el
 replace hx := Lib.hid hx
 have RT := Lib.hid treset_any
 have hB : Below w.heap.size w w := Below.refl _ _
 go_enter Tryz.func3, Tryz.ntmps3
 go_upto_region 6 with (first | (go_at_call 6; with_reducible refine (NW.out _).mono ?_; rintro e w1 ⟨gb, rfl, g, hle, hb⟩; replace hB := hB.trans (hb.mono hB.size); clear hb) | (rw [rssc_zero]; refine wpList_store_row rfl _ _ _ rfl _ rfl _ rfl _ _ (blk.new _ _ _) (by first | kernel_rfl | (rw [rssc_size]; kernel_rfl)) (by first | rfl | simp only [rssc_size]) (by first | exact rssc_one _ | rfl) ?_))
 clear NW
 have ne_g_r : gb ≠ w1.heap.size := Nat.ne_of_lt g.lt
 have ge_r : w.heap.size ≤ w1.heap.size := hB.size
 have ge_g : w.heap.size ≤ gb := hle
 clear hle
 have r := (blk.new w1 (rssc SSt.zero) 30).row (rssc SSt.zero)
 replace hB := Below.setRow (hB.alloc hB.size (.cells (rssc SSt.zero) 30)) (g := w1.heap.size) hB.size (rssc SSt.zero)
 have hne : ∀ x, x < w1.heap.size → x ≠ w1.heap.size := fun x hx => Nat.ne_of_lt hx
 replace g := (g.alloc (.cells (rssc SSt.zero) 30)).rowOther (hne _ g.lt) (rssc SSt.zero)
 clear hne
 generalize (w1.alloc (.cells (rssc SSt.zero) 30)).setRow w1.heap.size (rssc SSt.zero) = w1x at *
 generalize w1.heap.size = r_b at *
 go_wp2_with (fail)
 go_loopg [5] n (fun g_ iv wr => ∃ K : Nat, ∃ X : SSt, g_ + K = n ∧ iv = .int .i64 K ∧ SSI X ∧ (zV X.A = true → X.A = fun _ => 0) ∧ blk wr gb (ssc X) 65 ∧ blk wr r_b (rssc X) 30 ∧ Below w.heap.size w wr)
 case atStart => exact ⟨0, SSt.zero, by omega, rfl, K0.out, fun _ => rfl, g, r, hB⟩
 case round =>
  clear g r hB
  obtain ⟨K, X, hK, rfl, KX, hzX, g, r, hB⟩ := hrel
  by_cases hKn : K < n
  ·have hdK : decide ((K : Int) < n) = true := decide_eq_true (by omega)
   have hdK' : decide (K < n) = true := decide_eq_true hKn
   have hk3 : (K : Int) < n := by omega
   have hk0 : (0 : Int) ≤ K := by omega
   have hwK : IntKind.i64.wrap ((K : Int) + 1) = ((K + 1 : Nat) : Int) := by rw [IntKind.wrap_i64]; omega
   obtain ⟨eb, eo, rfl, hEl, hE⟩ := el.out K hKn
   obtain ⟨hxa, hxq⟩ := hx.out K hKn
   replace hE : w.rangeAt eb (eo + K * 20) ((a26c (x K)).toList) := hE
   generalize x K = y at hE hxa hxq
   obtain ⟨yw, V, q⟩ := y
   have RE := Lib.hid (fun w (g : blk w gb (ssc X) 65) => rest_row X V gb w g KX)
   have SU := Lib.hid (fun w (g : blk w gb (ssc X) 65) => sun_row X V gb w g KX)
   have PO := Lib.hid (fun w (g : blk w gb (ssc X) 65) => point_row X V q gb w g KX hxa hxq)
   have RR := Lib.hid (fun w => rrest_any X V w KX)
   have RU := Lib.hid (fun w => rsun_any X V w KX hzX)
   have RP := Lib.hid (fun w => rpoint_any X V q w KX hxa hxq)
   have HX := Lib.hid KX
   clear hxa hxq KX hzX
   go_upto_region 9 with (fail)
   have lt_g := g.lt
   have lt_r := r.lt
   have hW0 : w.heap.size ≤ wr.heap.size := by simpa using hB.size
   apply wp_region_Q 6 [0, 1, 3, 7, 15, 31] [4] [_, _, _, _, (fun p => .pointer (some ⟨p 4, 0, none⟩)), (fun _ => undef)] (fun p L w' => wr.heap.size ≤ w'.heap.size ∧ Below w.heap.size w w' ∧ blk w' gb (ssc X) 65 ∧ blk w' r_b (rssc X) 30 ∧ (L 4 = true → wr.heap.size ≤ p 4 ∧ blk w' (p 4) (bif L 5 then (a26c (yw, V, q)) else (a26c ((0 : Int), SeT.zero, fun _ => 0))) 35)) _ [(0, 25), (1, 26), (2, 27), (3, 28), (4, 6)] [0, 1, 2, 3, 4, 5]
   case hn => rfl
   case hB => kernel_rfl
   case hds => kernel_rfl
   case hA => (intro p; simp only [putsD, Act.put, sIT, sCZ, sCS, gCZ, gCS]; exact rfl)
   case h0 => exact fun p => ⟨Nat.le_refl _, hB, g, r, fun h => absurd h (by decide)⟩
   case hmore => exact fun p L w1 w2 ⟨hsz, hB, g, r, h_m⟩ hm => ⟨Nat.le_trans hsz hm.size, hB.trans (hm.mono (Nat.le_trans hW0 hsz)), g.below hm g.lt, r.below hm r.lt, fun hl => ⟨(h_m hl).1, (h_m hl).2.below hm (h_m hl).2.lt⟩⟩
   case hs =>
    intro more
    iterate 3 (refine sVV ?_)
    refine sWW ?_ ?_
    ·rintro p L w1 ⟨hsz, hB, g, r, h_m⟩ hk
     have hr := range_below hE hB hEl
     exact valR_range _ _ rfl _ _ rfl _ (eo + K * 20) 0 hr (by first | rfl | omega) (a26c (yw, V, q)) (fun j _ => by rw [Nat.zero_add, Array.getElem?_toList]) _ Tryz.underlying35 rfl (by rw [a26c_size]; kernel_rfl) rfl
    refine AllI.cons ?_ ?_
    ·refine stepI_alloc 4 rfl (fun p => rfl) rfl (a26c ((0 : Int), SeT.zero, fun _ => 0)) 35 (fun p => rfl) ?_ ?_
     ·intro p w1
      go_simp
      first | done | rfl | fail
     rintro p L w1 ⟨hsz, hB, g, r, h_m⟩ hk
     have L5 : L 5 = false := hk.2.2 5 rfl
     refine ⟨Nat.le_trans hsz (by simp), hB.alloc (Nat.le_trans (by first | exact hW0 | (have := hB.size; simp at this ⊢; omega)) hsz) _, g.alloc _, r.alloc _, fun _ => ⟨hsz, ?_⟩⟩
     rw [show upL L 4 5 = false from L5]
     exact blk.new _ _ _
    refine AllI.cons ?_ ?_
    ·refine stepI_store 5 rfl (fun p => rfl) (fun p => rfl) _ _ _ rfl (fun p => p 4) 0 (fun p => rfl) (fun p => (a26c (yw, V, q))) (fun p => rfl) (fun p => (a26c ((0 : Int), SeT.zero, fun _ => 0))) (fun p => (a26c (yw, V, q))) 35 (fun p => over_full rfl) (fun p => by first | (rw [a26c_size, a26c_size]; decide) | simp [a26c_size, a26c_size]) (fun p => by rw [a26c_size]; kernel_rfl) (fun p => a26c_one _) ?_ ?_
     ·rintro p L w1 ⟨hsz, hB, g, r, h_m⟩ hk
      have L5 : L 5 = false := hk.1
      have hh := (h_m (hk.2.1 4 rfl)).2
      rw [L5] at hh
      try simp only [cond_true, cond_false] at hh
      exact hh
     ·rintro p L w1 ⟨hsz, hB, g, r, h_m⟩ hk
      have L5 : L 5 = false := hk.1
      skip
      have hp := h_m (hk.2.1 4 rfl)
      refine ⟨(by simpa using hsz), Below.setRow hB (by first | exact Nat.le_trans hW0 hp.1 | exact ge_m | omega | (have := hB.size; simp at this ⊢; omega)) _, g.rowOther (by first | exact Nat.ne_of_lt (Nat.lt_of_lt_of_le lt_g hp.1) | omega) _, r.rowOther (by first | exact Nat.ne_of_lt (Nat.lt_of_lt_of_le lt_r hp.1) | omega) _, fun _ => ⟨hp.1, ?_⟩⟩
      rw [show upL L 5 5 = true from rfl]
      exact hp.2.row _
    exact AllI.nil
   case hV0 =>
    intro p q
    refine AllI.cons ?_ ?_
    ·skip
     iterate 6 (refine AllI.cons (by first | exact .inl rfl | (refine .inr ?_; simp only [gCZ, gCS]; done) | exact .inr rfl) ?_)
     exact AllI.nil
    exact AllI.nil
   case he =>
   clear hB g r
   rintro p wrr ⟨hsz, hB, g, r, h_m⟩
   obtain ⟨le_m, m⟩ := h_m rfl
   clear h_m
   replace m : blk wrr (p 4) (a26c (yw, V, q)) 35 := m
   have ne_g_m : gb ≠ p 4 := Nat.ne_of_lt (Nat.lt_of_lt_of_le lt_g le_m)
   have ne_r_m : r_b ≠ p 4 := Nat.ne_of_lt (Nat.lt_of_lt_of_le lt_r le_m)
   have ge_m : w.heap.size ≤ p 4 := Nat.le_trans hW0 le_m
   generalize p 4 = m_b at *
   clear lt_g lt_r hsz hW0 hE hEl
   go_upto_region 10 with (fail)
   have lt_g := g.lt
   have lt_r := r.lt
   have lt_m := m.lt
   have hW0 : w.heap.size ≤ wrr.heap.size := by simpa using hB.size
   apply wp_region_Q 2 [0, 1] [0, 1] [(fun p => .pointer (some ⟨p 0, 0, none⟩)), (fun p => .pointer (some ⟨p 1, 0, none⟩))] (fun p L w' => wrr.heap.size ≤ w'.heap.size ∧ Below w.heap.size w w' ∧ blk w' gb (ssc X) 65 ∧ blk w' r_b (rssc X) 30 ∧ blk w' m_b (a26c (yw, V, q)) 35 ∧ (L 0 = true → wrr.heap.size ≤ p 0 ∧ blk w' (p 0) (qfn fun _ => 0) 28) ∧ (L 1 = true → wrr.heap.size ≤ p 1 ∧ blk w' (p 1) (qfn fun _ => 0) 28) ∧ (L 0 = true → L 1 = true → p 0 ≠ p 1)) _ [(0, 7), (1, 8)] [0, 1]
   case hn => rfl
   case hB => kernel_rfl
   case hds => kernel_rfl
   case hA => (intro p; simp only [putsD, Act.put, sIT, sCZ, sCS, gCZ, gCS]; exact rfl)
   case h0 => exact fun p => ⟨Nat.le_refl _, hB, g, r, m, fun h => absurd h (by decide), fun h => absurd h (by decide), fun h => absurd h (by decide)⟩
   case hmore => exact fun p L w1 w2 ⟨hsz, hB, g, r, m, h_c, h_d, hne_c_d⟩ hm => ⟨Nat.le_trans hsz hm.size, hB.trans (hm.mono (Nat.le_trans hW0 hsz)), g.below hm g.lt, r.below hm r.lt, m.below hm m.lt, fun hl => ⟨(h_c hl).1, (h_c hl).2.below hm (h_c hl).2.lt⟩, fun hl => ⟨(h_d hl).1, (h_d hl).2.below hm (h_d hl).2.lt⟩, hne_c_d⟩
   case hs =>
    intro more
    refine AllI.cons ?_ ?_
    ·refine stepI_alloc 0 rfl (fun p => rfl) rfl (qfn fun _ => 0) 28 (fun p => rfl) ?_ ?_
     ·intro p w1
      go_simp
      first | done | rfl | rw [zero_spd]
     rintro p L w1 ⟨hsz, hB, g, r, m, h_c, h_d, hne_c_d⟩ hk
     refine ⟨Nat.le_trans hsz (by simp), hB.alloc (Nat.le_trans (by first | exact hW0 | (have := hB.size; simp at this ⊢; omega)) hsz) _, g.alloc _, r.alloc _, m.alloc _, fun _ => ⟨hsz, ?_⟩, fun hl => absurd hl (by rw [show upL L 0 1 = false from hk.2.2 1 rfl]; decide), fun _ hl => absurd hl (by rw [show upL L 0 1 = false from hk.2.2 1 rfl]; decide)⟩
     exact blk.new _ _ _
    refine AllI.cons ?_ ?_
    ·refine stepI_alloc 1 rfl (fun p => rfl) rfl (qfn fun _ => 0) 28 (fun p => rfl) ?_ ?_
     ·intro p w1
      go_simp
      first | done | rfl | rw [zero_spd]
     rintro p L w1 ⟨hsz, hB, g, r, m, h_c, h_d, hne_c_d⟩ hk
     refine ⟨Nat.le_trans hsz (by simp), hB.alloc (Nat.le_trans (by first | exact hW0 | (have := hB.size; simp at this ⊢; omega)) hsz) _, g.alloc _, r.alloc _, m.alloc _, fun hl => ⟨(h_c hl).1, (h_c hl).2.alloc _⟩, fun _ => ⟨hsz, ?_⟩, fun hl _ => Nat.ne_of_lt (h_c hl).2.lt⟩
     exact blk.new _ _ _
    exact AllI.nil
   case hV0 =>
    intro p q
    refine AllI.cons ?_ ?_
    ·skip
     iterate 2 (refine AllI.cons (by first | exact .inl rfl | (refine .inr ?_; simp only [gCZ, gCS]; done) | exact .inr rfl) ?_)
     exact AllI.nil
    refine AllI.cons ?_ ?_
    ·skip
     iterate 2 (refine AllI.cons (by first | exact .inl rfl | (refine .inr ?_; simp only [gCZ, gCS]; done) | exact .inr rfl) ?_)
     exact AllI.nil
    exact AllI.nil
   case he =>
   clear hB g r m
   rintro p wrrr ⟨hsz, hB, g, r, m, h_c, h_d, hne_c_d⟩
   obtain ⟨le_c, c⟩ := h_c rfl
   clear h_c
   obtain ⟨le_d, d⟩ := h_d rfl
   clear h_d
   have ne_c_d : p 0 ≠ p 1 := hne_c_d rfl rfl
   clear hne_c_d
   replace c : blk wrrr (p 0) (qfn fun _ => 0) 28 := c
   replace d : blk wrrr (p 1) (qfn fun _ => 0) 28 := d
   have ne_g_c : gb ≠ p 0 := Nat.ne_of_lt (Nat.lt_of_lt_of_le lt_g le_c)
   have ne_r_c : r_b ≠ p 0 := Nat.ne_of_lt (Nat.lt_of_lt_of_le lt_r le_c)
   have ne_m_c : m_b ≠ p 0 := Nat.ne_of_lt (Nat.lt_of_lt_of_le lt_m le_c)
   have ge_c : w.heap.size ≤ p 0 := Nat.le_trans hW0 le_c
   have ne_g_d : gb ≠ p 1 := Nat.ne_of_lt (Nat.lt_of_lt_of_le lt_g le_d)
   have ne_r_d : r_b ≠ p 1 := Nat.ne_of_lt (Nat.lt_of_lt_of_le lt_r le_d)
   have ne_m_d : m_b ≠ p 1 := Nat.ne_of_lt (Nat.lt_of_lt_of_le lt_m le_d)
   have ge_d : w.heap.size ≤ p 1 := Nat.le_trans hW0 le_d
   generalize p 0 = c_b at *
   generalize p 1 = d_b at *
   clear lt_g lt_r lt_m hsz hW0
   go_upto_region 12 with (fail)
   have lt_g := g.lt
   have lt_r := r.lt
   have lt_m := m.lt
   have lt_c := c.lt
   have lt_d := d.lt
   have hW0 : w.heap.size ≤ wrrr.heap.size := by simpa using hB.size
   apply wp_region_Q 3 [0, 1, 3] [] [_, _, _] (fun p L w' => wrrr.heap.size ≤ w'.heap.size ∧ Below w.heap.size w w' ∧ blk w' gb (ssc X) 65 ∧ blk w' r_b (rssc X) 30 ∧ blk w' m_b (a26c (yw, V, q)) 35 ∧ blk w' c_b (qfn fun _ => 0) 28 ∧ blk w' d_b (qfn fun _ => 0) 28) _ [(0, 29), (1, 30), (2, 31)] [0, 1, 2]
   case hn => rfl
   case hB => kernel_rfl
   case hds => kernel_rfl
   case hA => (intro p; simp only [putsD, Act.put, sIT, sCZ, sCS, gCZ, gCS]; exact rfl)
   case h0 => exact fun p => ⟨Nat.le_refl _, hB, g, r, m, c, d⟩
   case hmore => exact fun p L w1 w2 ⟨hsz, hB, g, r, m, c, d⟩ hm => ⟨Nat.le_trans hsz hm.size, hB.trans (hm.mono (Nat.le_trans hW0 hsz)), g.below hm g.lt, r.below hm r.lt, m.below hm m.lt, c.below hm c.lt, d.below hm d.lt⟩
   case hs =>
    intro more
    refine sVV ?_
    refine sWW ?_ ?_
    ·rintro p L w1 ⟨hsz, hB, g, r, m, c, d⟩ hk
     have hc : w1.cell? ⟨m_b, 0, none⟩ = some (.int .u8 yw) := m.cellIs rfl
     go_simp
     exact ⟨rfl, rfl⟩
    refine sVV ?_
    exact AllI.nil
   case hV0 => exact fun p q => AllI.nil
   case he =>
   clear hB g r m c d
   rintro p wrrrr ⟨hsz, hB, g, r, m, c, d⟩
   clear lt_g lt_r lt_m lt_c lt_d hsz hW0
   generalize yw.tmod 8 = z at *
   refine six (z := z) ?c0 ?c1 ?c2 ?c3 ?c7 ?cs
   case' c0 | c1 =>
    intro hz
    subst hz
    go_upto_region 17 with (fail)
    have lt_g := g.lt
    have lt_r := r.lt
    have lt_m := m.lt
    have lt_c := c.lt
    have lt_d := d.lt
    have hW0 : w.heap.size ≤ wrrrr.heap.size := by simpa using hB.size
    apply wp_region_Q 9 [0, 1, 3, 7, 15, 31, 63, 127, 255] [] [_, _, _, _, _, _, _, (fun _ => undef), _] (fun p L w' => wrrrr.heap.size ≤ w'.heap.size ∧ Below w.heap.size w w' ∧ blk w' gb (bif L 3 then (ssc (restX X V)) else (ssc X)) 65 ∧ blk w' r_b (rssc X) 30 ∧ blk w' m_b (a26c (yw, V, q)) 35 ∧ blk w' c_b (bif L 7 then (qfn (restC X V)) else (qfn fun _ => 0)) 28 ∧ blk w' d_b (qfn fun _ => 0) 28) _ [(0, 51), (1, 52), (2, 53), (3, 54), (4, 50), (5, 55), (6, 56), (8, 9)] [0, 1, 2, 3, 4, 5, 6, 7, 8]
    case hn => rfl
    case hB => kernel_rfl
    case hds => kernel_rfl
    case hA => (intro p; simp only [putsD, Act.put, sIT, sCZ, sCS, gCZ, gCS]; exact rfl)
    case h0 => exact fun p => ⟨Nat.le_refl _, hB, g, r, m, c, d⟩
    case hmore => exact fun p L w1 w2 ⟨hsz, hB, g, r, m, c, d⟩ hm => ⟨Nat.le_trans hsz hm.size, hB.trans (hm.mono (Nat.le_trans hW0 hsz)), g.below hm g.lt, r.below hm r.lt, m.below hm m.lt, c.below hm c.lt, d.below hm d.lt⟩
    case hs =>
     intro more
     iterate 2 (refine sVV ?_)
     refine sWW ?_ ?_
     ·rintro p L w1 ⟨hsz, hB, g, r, m, c, d⟩ hk
      have L3 : L 3 = false := hk.2.2 3 rfl
      have L7 : L 7 = false := hk.2.2 7 rfl
      exact valR_part _ _ rfl _ 1 rfl _ _ m (sec V) (a26_v yw V q) _ Tryz.underlying33 rfl (by rw [sec_size]; kernel_rfl) rfl
     refine AllI.cons ?_ ?_
     ·refine stepI_mut 3 rfl (fun p => rfl) (fun _ => gb) (fun p => (ssc (restX X V))) ?_ ?_
      ·rintro p L w1 ⟨hsz, hB, g, r, m, c, d⟩ hk
       have L3 : L 3 = false := hk.1
       have L7 : L 7 = false := hk.2.2 7 rfl
       rw [L3] at g
       try simp only [cond_true, cond_false] at g
       go_simp
       refine (RE.out _ g).mono ?_
       rintro e w2 ⟨rfl, h2⟩
       exact ⟨rfl, h2⟩
      ·rintro p L w1 w2 ⟨hsz, hB, g, r, m, c, d⟩ hk hm
       have L3 : L 3 = false := hk.1
       have L7 : L 7 = false := hk.2.2 7 rfl
       refine ⟨Nat.le_trans hsz (by have := hm.size; simpa using this), (Below.setRow hB (by first | exact Nat.le_trans hW0 hp.1 | exact ge_g | omega | (have := hB.size; simp at this ⊢; omega)) _).trans (hm.mono (Nat.le_trans hW0 hsz)), ?_, (r.rowOther (Ne.symm ne_g_r) _).below hm (by simpa using r.lt), (m.rowOther (Ne.symm ne_g_m) _).below hm (by simpa using m.lt), (c.rowOther (Ne.symm ne_g_c) _).below hm (by simpa using c.lt), (d.rowOther (Ne.symm ne_g_d) _).below hm (by simpa using d.lt)⟩
       rw [show upL L 3 3 = true from rfl]
       exact (g.row _).below hm (by simpa using g.lt)
     iterate 3 (refine sVV ?_)
     refine AllI.cons ?_ ?_
     ·refine stepI_store 7 rfl (fun p => rfl) (fun p => rfl) _ _ _ rfl (fun _ => c_b) 0 (fun p => rfl) (fun p => (qfn (restC X V))) (fun p => rfl) (fun p => (qfn fun _ => 0)) (fun p => (qfn (restC X V))) 28 (fun p => over_qq _ _) (fun p => by first | (rw [qfn_size, qfn_size]; decide) | simp [qfn_size, qfn_size]) (fun p => by rw [qfn_size]; kernel_rfl) (fun p => qfn_one _) ?_ ?_
      ·rintro p L w1 ⟨hsz, hB, g, r, m, c, d⟩ hk
       have L3 : L 3 = true := hk.2.1 3 rfl
       have L7 : L 7 = false := hk.1
       rw [L7] at c
       try simp only [cond_true, cond_false] at c
       exact c
      ·rintro p L w1 ⟨hsz, hB, g, r, m, c, d⟩ hk
       have L3 : L 3 = true := hk.2.1 3 rfl
       have L7 : L 7 = false := hk.1
       skip
       refine ⟨(by simpa using hsz), Below.setRow hB (by first | exact Nat.le_trans hW0 hp.1 | exact ge_c | omega | (have := hB.size; simp at this ⊢; omega)) _, g.rowOther ne_g_c _, r.rowOther ne_r_c _, m.rowOther ne_m_c _, ?_, d.rowOther (Ne.symm ne_c_d) _⟩
       rw [show upL L 7 7 = true from rfl]
       exact c.row _
     refine sVV ?_
     exact AllI.nil
    case hV0 => exact fun p q => AllI.nil
    case' he =>
    clear hB g r m c d
    rintro p wrrrrr ⟨hsz, hB, g, r, m, c, d⟩
    replace g : blk wrrrrr gb (ssc (restX X V)) 65 := g
    replace c : blk wrrrrr c_b (qfn (restC X V)) 28 := c
    clear lt_g lt_r lt_m lt_c lt_d hsz hW0
    go_upto_region 18 with (fail)
    have lt_g := g.lt
    have lt_r := r.lt
    have lt_m := m.lt
    have lt_c := c.lt
    have lt_d := d.lt
    have hW0 : w.heap.size ≤ wrrrrr.heap.size := by simpa using hB.size
    apply wp_region_Q 11 [0, 1, 3, 7, 15, 31, 63, 127, 255, 511, 1023] [] [_, _, _, _, _, _, _, _, (fun _ => undef), (fun _ => undef), _] (fun p L w' => wrrrrr.heap.size ≤ w'.heap.size ∧ Below w.heap.size w w' ∧ blk w' gb (ssc (restX X V)) 65 ∧ blk w' r_b (bif L 8 then (rssc (restX X V)) else (rssc X)) 30 ∧ blk w' m_b (a26c (yw, V, q)) 35 ∧ blk w' c_b (qfn (restC X V)) 28 ∧ blk w' d_b (bif L 9 then (qfn (restC X V)) else (qfn fun _ => 0)) 28) _ [(0, 58), (1, 59), (2, 60), (3, 61), (4, 57), (5, 62), (6, 63), (7, 64), (10, 10)] [0, 1, 2, 3, 4, 5, 6, 7, 8, 9, 10]
    case hn => rfl
    case hB => kernel_rfl
    case hds => kernel_rfl
    case hA => (intro p; simp only [putsD, Act.put, sIT, sCZ, sCS, gCZ, gCS]; exact rfl)
    case h0 => exact fun p => ⟨Nat.le_refl _, hB, g, r, m, c, d⟩
    case hmore => exact fun p L w1 w2 ⟨hsz, hB, g, r, m, c, d⟩ hm => ⟨Nat.le_trans hsz hm.size, hB.trans (hm.mono (Nat.le_trans hW0 hsz)), g.below hm g.lt, r.below hm r.lt, m.below hm m.lt, c.below hm c.lt, d.below hm d.lt⟩
    case hs =>
     intro more
     refine sWW ?_ ?_
     ·rintro p L w1 ⟨hsz, hB, g, r, m, c, d⟩ hk
      have L8 : L 8 = false := hk.2.2 8 rfl
      have L9 : L 9 = false := hk.2.2 9 rfl
      rw [L8] at r
      try simp only [cond_true, cond_false] at r
      first | exact valR_row _ _ rfl _ rfl _ _ r _ Tryz.underlying30 rfl (by first | kernel_rfl | (rw [rssc_size]; kernel_rfl)) rfl | (have hc := r.cellIs (show _[0]? = some _ from rfl); go_simp; exact ⟨rfl, rfl⟩)
     refine sVV ?_
     refine sWW ?_ ?_
     ·rintro p L w1 ⟨hsz, hB, g, r, m, c, d⟩ hk
      have L8 : L 8 = false := hk.2.2 8 rfl
      have L9 : L 9 = false := hk.2.2 9 rfl
      exact valR_part _ _ rfl _ 1 rfl _ _ m (sec V) (a26_v yw V q) _ Tryz.underlying33 rfl (by rw [sec_size]; kernel_rfl) rfl
     refine stepD 3 rfl (fun p => rfl) (fun _ _ _ h => h) more ?_ ?_
     ·rintro p L w1 ⟨hsz, hB, g, r, m, c, d⟩ hk
      go_simp
      refine (RR.out _).mono ?_
      rintro e w2 ⟨rfl, h2⟩
      first | exact ⟨rfl, h2⟩ | (subst h2; exact ⟨rfl, Below.refl _ _⟩)
     iterate 4 (refine sVV ?_)
     refine AllI.cons ?_ ?_
     ·refine stepI_store 8 rfl (fun p => rfl) (fun p => rfl) _ _ _ rfl (fun _ => r_b) 0 (fun p => rfl) (fun p => (rssc (restX X V))) (fun p => rfl) (fun p => (rssc X)) (fun p => (rssc (restX X V))) 30 (fun p => rsover _ _) (fun p => by first | (rw [rssc_size, rssc_size]; decide) | simp [rssc_size, rssc_size]) (fun p => by rw [rssc_size]; kernel_rfl) (fun p => rssc_one _) ?_ ?_
      ·rintro p L w1 ⟨hsz, hB, g, r, m, c, d⟩ hk
       have L8 : L 8 = false := hk.1
       have L9 : L 9 = false := hk.2.2 9 rfl
       rw [L8] at r
       try simp only [cond_true, cond_false] at r
       exact r
      ·rintro p L w1 ⟨hsz, hB, g, r, m, c, d⟩ hk
       have L8 : L 8 = false := hk.1
       have L9 : L 9 = false := hk.2.2 9 rfl
       skip
       refine ⟨(by simpa using hsz), Below.setRow hB (by first | exact Nat.le_trans hW0 hp.1 | exact ge_r | omega | (have := hB.size; simp at this ⊢; omega)) _, g.rowOther ne_g_r _, ?_, m.rowOther (Ne.symm ne_r_m) _, c.rowOther (Ne.symm ne_r_c) _, d.rowOther (Ne.symm ne_r_d) _⟩
       rw [show upL L 8 8 = true from rfl]
       exact r.row _
     refine AllI.cons ?_ ?_
     ·refine stepI_store 9 rfl (fun p => rfl) (fun p => rfl) _ _ _ rfl (fun _ => d_b) 0 (fun p => rfl) (fun p => (qfn (restC X V))) (fun p => rfl) (fun p => (qfn fun _ => 0)) (fun p => (qfn (restC X V))) 28 (fun p => over_qq _ _) (fun p => by first | (rw [qfn_size, qfn_size]; decide) | simp [qfn_size, qfn_size]) (fun p => by rw [qfn_size]; kernel_rfl) (fun p => qfn_one _) ?_ ?_
      ·rintro p L w1 ⟨hsz, hB, g, r, m, c, d⟩ hk
       have L8 : L 8 = true := hk.2.1 8 rfl
       have L9 : L 9 = false := hk.1
       rw [L9] at d
       try simp only [cond_true, cond_false] at d
       exact d
      ·rintro p L w1 ⟨hsz, hB, g, r, m, c, d⟩ hk
       have L8 : L 8 = true := hk.2.1 8 rfl
       have L9 : L 9 = false := hk.1
       skip
       refine ⟨(by simpa using hsz), Below.setRow hB (by first | exact Nat.le_trans hW0 hp.1 | exact ge_d | omega | (have := hB.size; simp at this ⊢; omega)) _, g.rowOther ne_g_d _, r.rowOther ne_r_d _, m.rowOther ne_m_d _, c.rowOther ne_c_d _, ?_⟩
       rw [show upL L 9 9 = true from rfl]
       exact d.row _
     refine sVV ?_
     exact AllI.nil
    case hV0 => exact fun p q => AllI.nil
    case' he =>
    clear hB g r m c d
    rintro p wrrrrrr ⟨hsz, hB, g, r, m, c, d⟩
    replace r : blk wrrrrrr r_b (rssc (restX X V)) 30 := r
    replace d : blk wrrrrrr d_b (qfn (restC X V)) 28 := d
    clear lt_g lt_r lt_m lt_c lt_d hsz hW0
    have HS := Lib.hid ((restX_S HX.out V).1)
    generalize (restX X V) = Yn at *
    generalize (restC X V) = Cn at *
    generalize okE (senseOk V) = En at *
    have n0 : (En != En) = false := by simp
    generalize hWF : wrrrrrr = WF at *
    clear hWF
    go_upto_region 26 with (fail)
   case' c2 | c3 =>
    intro hz
    subst hz
    go_upto_region 21 with (fail)
    have lt_g := g.lt
    have lt_r := r.lt
    have lt_m := m.lt
    have lt_c := c.lt
    have lt_d := d.lt
    have hW0 : w.heap.size ≤ wrrrr.heap.size := by simpa using hB.size
    apply wp_region_Q 11 [0, 1, 3, 7, 15, 31, 63, 127, 255, 511, 1023] [] [_, _, _, _, _, _, _, _, _, (fun _ => undef), _] (fun p L w' => wrrrr.heap.size ≤ w'.heap.size ∧ Below w.heap.size w w' ∧ blk w' gb (bif L 5 then (ssc (pointX X V q)) else (ssc X)) 65 ∧ blk w' r_b (rssc X) 30 ∧ blk w' m_b (a26c (yw, V, q)) 35 ∧ blk w' c_b (bif L 9 then (qfn (pointC X V q)) else (qfn fun _ => 0)) 28 ∧ blk w' d_b (qfn fun _ => 0) 28) _ [(0, 69), (1, 70), (2, 71), (3, 72), (4, 73), (5, 74), (6, 68), (7, 75), (8, 76), (10, 9)] [0, 1, 2, 3, 4, 5, 6, 7, 8, 9, 10]
    case hn => rfl
    case hB => kernel_rfl
    case hds => kernel_rfl
    case hA => (intro p; simp only [putsD, Act.put, sIT, sCZ, sCS, gCZ, gCS]; exact rfl)
    case h0 => exact fun p => ⟨Nat.le_refl _, hB, g, r, m, c, d⟩
    case hmore => exact fun p L w1 w2 ⟨hsz, hB, g, r, m, c, d⟩ hm => ⟨Nat.le_trans hsz hm.size, hB.trans (hm.mono (Nat.le_trans hW0 hsz)), g.below hm g.lt, r.below hm r.lt, m.below hm m.lt, c.below hm c.lt, d.below hm d.lt⟩
    case hs =>
     intro more
     iterate 2 (refine sVV ?_)
     refine sWW ?_ ?_
     ·rintro p L w1 ⟨hsz, hB, g, r, m, c, d⟩ hk
      have L5 : L 5 = false := hk.2.2 5 rfl
      have L9 : L 9 = false := hk.2.2 9 rfl
      exact valR_part _ _ rfl _ 1 rfl _ _ m (sec V) (a26_v yw V q) _ Tryz.underlying33 rfl (by rw [sec_size]; kernel_rfl) rfl
     refine sVV ?_
     refine sWW ?_ ?_
     ·rintro p L w1 ⟨hsz, hB, g, r, m, c, d⟩ hk
      have L5 : L 5 = false := hk.2.2 5 rfl
      have L9 : L 9 = false := hk.2.2 9 rfl
      exact valR_part _ _ rfl _ 16 rfl _ _ m (qfn q) (a26_q yw V q) _ Tryz.underlying31 rfl (by rw [qfn_size]; kernel_rfl) rfl
     refine AllI.cons ?_ ?_
     ·refine stepI_mut 5 rfl (fun p => rfl) (fun _ => gb) (fun p => (ssc (pointX X V q))) ?_ ?_
      ·rintro p L w1 ⟨hsz, hB, g, r, m, c, d⟩ hk
       have L5 : L 5 = false := hk.1
       have L9 : L 9 = false := hk.2.2 9 rfl
       rw [L5] at g
       try simp only [cond_true, cond_false] at g
       go_simp
       refine (PO.out _ g).mono ?_
       rintro e w2 ⟨rfl, h2⟩
       exact ⟨rfl, h2⟩
      ·rintro p L w1 w2 ⟨hsz, hB, g, r, m, c, d⟩ hk hm
       have L5 : L 5 = false := hk.1
       have L9 : L 9 = false := hk.2.2 9 rfl
       refine ⟨Nat.le_trans hsz (by have := hm.size; simpa using this), (Below.setRow hB (by first | exact Nat.le_trans hW0 hp.1 | exact ge_g | omega | (have := hB.size; simp at this ⊢; omega)) _).trans (hm.mono (Nat.le_trans hW0 hsz)), ?_, (r.rowOther (Ne.symm ne_g_r) _).below hm (by simpa using r.lt), (m.rowOther (Ne.symm ne_g_m) _).below hm (by simpa using m.lt), (c.rowOther (Ne.symm ne_g_c) _).below hm (by simpa using c.lt), (d.rowOther (Ne.symm ne_g_d) _).below hm (by simpa using d.lt)⟩
       rw [show upL L 5 5 = true from rfl]
       exact (g.row _).below hm (by simpa using g.lt)
     iterate 3 (refine sVV ?_)
     refine AllI.cons ?_ ?_
     ·refine stepI_store 9 rfl (fun p => rfl) (fun p => rfl) _ _ _ rfl (fun _ => c_b) 0 (fun p => rfl) (fun p => (qfn (pointC X V q))) (fun p => rfl) (fun p => (qfn fun _ => 0)) (fun p => (qfn (pointC X V q))) 28 (fun p => over_qq _ _) (fun p => by first | (rw [qfn_size, qfn_size]; decide) | simp [qfn_size, qfn_size]) (fun p => by rw [qfn_size]; kernel_rfl) (fun p => qfn_one _) ?_ ?_
      ·rintro p L w1 ⟨hsz, hB, g, r, m, c, d⟩ hk
       have L5 : L 5 = true := hk.2.1 5 rfl
       have L9 : L 9 = false := hk.1
       rw [L9] at c
       try simp only [cond_true, cond_false] at c
       exact c
      ·rintro p L w1 ⟨hsz, hB, g, r, m, c, d⟩ hk
       have L5 : L 5 = true := hk.2.1 5 rfl
       have L9 : L 9 = false := hk.1
       skip
       refine ⟨(by simpa using hsz), Below.setRow hB (by first | exact Nat.le_trans hW0 hp.1 | exact ge_c | omega | (have := hB.size; simp at this ⊢; omega)) _, g.rowOther ne_g_c _, r.rowOther ne_r_c _, m.rowOther ne_m_c _, ?_, d.rowOther (Ne.symm ne_c_d) _⟩
       rw [show upL L 9 9 = true from rfl]
       exact c.row _
     refine sVV ?_
     exact AllI.nil
    case hV0 => exact fun p q => AllI.nil
    case' he =>
    clear hB g r m c d
    rintro p wrrrrr ⟨hsz, hB, g, r, m, c, d⟩
    replace g : blk wrrrrr gb (ssc (pointX X V q)) 65 := g
    replace c : blk wrrrrr c_b (qfn (pointC X V q)) 28 := c
    clear lt_g lt_r lt_m lt_c lt_d hsz hW0
    go_upto_region 22 with (fail)
    have lt_g := g.lt
    have lt_r := r.lt
    have lt_m := m.lt
    have lt_c := c.lt
    have lt_d := d.lt
    have hW0 : w.heap.size ≤ wrrrrr.heap.size := by simpa using hB.size
    apply wp_region_Q 13 [0, 1, 3, 7, 15, 31, 63, 127, 255, 511, 1023, 2047, 4095] [] [_, _, _, _, _, _, _, _, _, _, (fun _ => undef), (fun _ => undef), _] (fun p L w' => wrrrrr.heap.size ≤ w'.heap.size ∧ Below w.heap.size w w' ∧ blk w' gb (ssc (pointX X V q)) 65 ∧ blk w' r_b (bif L 10 then (rssc (pointX X V q)) else (rssc X)) 30 ∧ blk w' m_b (a26c (yw, V, q)) 35 ∧ blk w' c_b (qfn (pointC X V q)) 28 ∧ blk w' d_b (bif L 11 then (qfn (pointC X V q)) else (qfn fun _ => 0)) 28) _ [(0, 78), (1, 79), (2, 80), (3, 81), (4, 82), (5, 83), (6, 77), (7, 84), (8, 85), (9, 86), (12, 10)] [0, 1, 2, 3, 4, 5, 6, 7, 8, 9, 10, 11, 12]
    case hn => rfl
    case hB => kernel_rfl
    case hds => kernel_rfl
    case hA => (intro p; simp only [putsD, Act.put, sIT, sCZ, sCS, gCZ, gCS]; exact rfl)
    case h0 => exact fun p => ⟨Nat.le_refl _, hB, g, r, m, c, d⟩
    case hmore => exact fun p L w1 w2 ⟨hsz, hB, g, r, m, c, d⟩ hm => ⟨Nat.le_trans hsz hm.size, hB.trans (hm.mono (Nat.le_trans hW0 hsz)), g.below hm g.lt, r.below hm r.lt, m.below hm m.lt, c.below hm c.lt, d.below hm d.lt⟩
    case hs =>
     intro more
     refine sWW ?_ ?_
     ·rintro p L w1 ⟨hsz, hB, g, r, m, c, d⟩ hk
      have L10 : L 10 = false := hk.2.2 10 rfl
      have L11 : L 11 = false := hk.2.2 11 rfl
      rw [L10] at r
      try simp only [cond_true, cond_false] at r
      first | exact valR_row _ _ rfl _ rfl _ _ r _ Tryz.underlying30 rfl (by first | kernel_rfl | (rw [rssc_size]; kernel_rfl)) rfl | (have hc := r.cellIs (show _[0]? = some _ from rfl); go_simp; exact ⟨rfl, rfl⟩)
     refine sVV ?_
     refine sWW ?_ ?_
     ·rintro p L w1 ⟨hsz, hB, g, r, m, c, d⟩ hk
      have L10 : L 10 = false := hk.2.2 10 rfl
      have L11 : L 11 = false := hk.2.2 11 rfl
      exact valR_part _ _ rfl _ 1 rfl _ _ m (sec V) (a26_v yw V q) _ Tryz.underlying33 rfl (by rw [sec_size]; kernel_rfl) rfl
     refine sVV ?_
     refine sWW ?_ ?_
     ·rintro p L w1 ⟨hsz, hB, g, r, m, c, d⟩ hk
      have L10 : L 10 = false := hk.2.2 10 rfl
      have L11 : L 11 = false := hk.2.2 11 rfl
      exact valR_part _ _ rfl _ 16 rfl _ _ m (qfn q) (a26_q yw V q) _ Tryz.underlying31 rfl (by rw [qfn_size]; kernel_rfl) rfl
     refine stepD 5 rfl (fun p => rfl) (fun _ _ _ h => h) more ?_ ?_
     ·rintro p L w1 ⟨hsz, hB, g, r, m, c, d⟩ hk
      go_simp
      refine (RP.out _).mono ?_
      rintro e w2 ⟨rfl, h2⟩
      first | exact ⟨rfl, h2⟩ | (subst h2; exact ⟨rfl, Below.refl _ _⟩)
     iterate 4 (refine sVV ?_)
     refine AllI.cons ?_ ?_
     ·refine stepI_store 10 rfl (fun p => rfl) (fun p => rfl) _ _ _ rfl (fun _ => r_b) 0 (fun p => rfl) (fun p => (rssc (pointX X V q))) (fun p => rfl) (fun p => (rssc X)) (fun p => (rssc (pointX X V q))) 30 (fun p => rsover _ _) (fun p => by first | (rw [rssc_size, rssc_size]; decide) | simp [rssc_size, rssc_size]) (fun p => by rw [rssc_size]; kernel_rfl) (fun p => rssc_one _) ?_ ?_
      ·rintro p L w1 ⟨hsz, hB, g, r, m, c, d⟩ hk
       have L10 : L 10 = false := hk.1
       have L11 : L 11 = false := hk.2.2 11 rfl
       rw [L10] at r
       try simp only [cond_true, cond_false] at r
       exact r
      ·rintro p L w1 ⟨hsz, hB, g, r, m, c, d⟩ hk
       have L10 : L 10 = false := hk.1
       have L11 : L 11 = false := hk.2.2 11 rfl
       skip
       refine ⟨(by simpa using hsz), Below.setRow hB (by first | exact Nat.le_trans hW0 hp.1 | exact ge_r | omega | (have := hB.size; simp at this ⊢; omega)) _, g.rowOther ne_g_r _, ?_, m.rowOther (Ne.symm ne_r_m) _, c.rowOther (Ne.symm ne_r_c) _, d.rowOther (Ne.symm ne_r_d) _⟩
       rw [show upL L 10 10 = true from rfl]
       exact r.row _
     refine AllI.cons ?_ ?_
     ·refine stepI_store 11 rfl (fun p => rfl) (fun p => rfl) _ _ _ rfl (fun _ => d_b) 0 (fun p => rfl) (fun p => (qfn (pointC X V q))) (fun p => rfl) (fun p => (qfn fun _ => 0)) (fun p => (qfn (pointC X V q))) 28 (fun p => over_qq _ _) (fun p => by first | (rw [qfn_size, qfn_size]; decide) | simp [qfn_size, qfn_size]) (fun p => by rw [qfn_size]; kernel_rfl) (fun p => qfn_one _) ?_ ?_
      ·rintro p L w1 ⟨hsz, hB, g, r, m, c, d⟩ hk
       have L10 : L 10 = true := hk.2.1 10 rfl
       have L11 : L 11 = false := hk.1
       rw [L11] at d
       try simp only [cond_true, cond_false] at d
       exact d
      ·rintro p L w1 ⟨hsz, hB, g, r, m, c, d⟩ hk
       have L10 : L 10 = true := hk.2.1 10 rfl
       have L11 : L 11 = false := hk.1
       skip
       refine ⟨(by simpa using hsz), Below.setRow hB (by first | exact Nat.le_trans hW0 hp.1 | exact ge_d | omega | (have := hB.size; simp at this ⊢; omega)) _, g.rowOther ne_g_d _, r.rowOther ne_r_d _, m.rowOther ne_m_d _, c.rowOther ne_c_d _, ?_⟩
       rw [show upL L 11 11 = true from rfl]
       exact d.row _
     refine sVV ?_
     exact AllI.nil
    case hV0 => exact fun p q => AllI.nil
    case' he =>
    clear hB g r m c d
    rintro p wrrrrrr ⟨hsz, hB, g, r, m, c, d⟩
    replace r : blk wrrrrrr r_b (rssc (pointX X V q)) 30 := r
    replace d : blk wrrrrrr d_b (qfn (pointC X V q)) 28 := d
    clear lt_g lt_r lt_m lt_c lt_d hsz hW0
    have HS := Lib.hid ((pointX_S HX.out V q).1)
    generalize (pointX X V q) = Yn at *
    generalize (pointC X V q) = Cn at *
    generalize okE (ptOk V q) = En at *
    have n0 : (En != En) = false := by simp
    generalize hWF : wrrrrrr = WF at *
    clear hWF
    go_upto_region 26 with (fail)
   case' c7 =>
    intro hz
    subst hz
    go_upto_region 24 with (fail)
    have lt_g := g.lt
    have lt_r := r.lt
    have lt_m := m.lt
    have lt_c := c.lt
    have lt_d := d.lt
    have hW0 : w.heap.size ≤ wrrrr.heap.size := by simpa using hB.size
    apply wp_region_Q 2 [0, 1] [] [_, _] (fun p L w' => wrrrr.heap.size ≤ w'.heap.size ∧ Below w.heap.size w w' ∧ blk w' gb (bif L 1 then (ssc SSt.zero) else (ssc X)) 65 ∧ blk w' r_b (rssc X) 30 ∧ blk w' m_b (a26c (yw, V, q)) 35 ∧ blk w' c_b (qfn fun _ => 0) 28 ∧ blk w' d_b (qfn fun _ => 0) 28) _ [(0, 89), (1, 90)] [0, 1]
    case hn => rfl
    case hB => kernel_rfl
    case hds => kernel_rfl
    case hA => (intro p; simp only [putsD, Act.put, sIT, sCZ, sCS, gCZ, gCS]; exact rfl)
    case h0 => exact fun p => ⟨Nat.le_refl _, hB, g, r, m, c, d⟩
    case hmore => exact fun p L w1 w2 ⟨hsz, hB, g, r, m, c, d⟩ hm => ⟨Nat.le_trans hsz hm.size, hB.trans (hm.mono (Nat.le_trans hW0 hsz)), g.below hm g.lt, r.below hm r.lt, m.below hm m.lt, c.below hm c.lt, d.below hm d.lt⟩
    case hs =>
     intro more
     refine sVV ?_
     refine AllI.cons ?_ ?_
     ·refine stepI_mut 1 rfl (fun p => rfl) (fun _ => gb) (fun p => (ssc SSt.zero)) ?_ ?_
      ·rintro p L w1 ⟨hsz, hB, g, r, m, c, d⟩ hk
       have L1 : L 1 = false := hk.1
       rw [L1] at g
       try simp only [cond_true, cond_false] at g
       go_simp
       refine (RT.out _ _ _ g).mono ?_
       rintro e w2 ⟨rfl, h2⟩
       exact ⟨rfl, h2⟩
      ·rintro p L w1 w2 ⟨hsz, hB, g, r, m, c, d⟩ hk hm
       have L1 : L 1 = false := hk.1
       refine ⟨Nat.le_trans hsz (by have := hm.size; simpa using this), (Below.setRow hB (by first | exact Nat.le_trans hW0 hp.1 | exact ge_g | omega | (have := hB.size; simp at this ⊢; omega)) _).trans (hm.mono (Nat.le_trans hW0 hsz)), ?_, (r.rowOther (Ne.symm ne_g_r) _).below hm (by simpa using r.lt), (m.rowOther (Ne.symm ne_g_m) _).below hm (by simpa using m.lt), (c.rowOther (Ne.symm ne_g_c) _).below hm (by simpa using c.lt), (d.rowOther (Ne.symm ne_g_d) _).below hm (by simpa using d.lt)⟩
       rw [show upL L 1 1 = true from rfl]
       exact (g.row _).below hm (by simpa using g.lt)
     exact AllI.nil
    case hV0 => exact fun p q => AllI.nil
    case' he =>
    clear hB g r m c d
    rintro p wrrrrr ⟨hsz, hB, g, r, m, c, d⟩
    replace g : blk wrrrrr gb (ssc SSt.zero) 65 := g
    clear lt_g lt_r lt_m lt_c lt_d hsz hW0
    go_upto_region 25 with (fail)
    have lt_g := g.lt
    have lt_r := r.lt
    have lt_m := m.lt
    have lt_c := c.lt
    have lt_d := d.lt
    have hW0 : w.heap.size ≤ wrrrrr.heap.size := by simpa using hB.size
    apply wp_region_Q 2 [0, 1] [] [_, (fun _ => undef)] (fun p L w' => wrrrrr.heap.size ≤ w'.heap.size ∧ Below w.heap.size w w' ∧ blk w' gb (ssc SSt.zero) 65 ∧ blk w' r_b (bif L 1 then (rssc SSt.zero) else (rssc X)) 30 ∧ blk w' m_b (a26c (yw, V, q)) 35 ∧ blk w' c_b (qfn fun _ => 0) 28 ∧ blk w' d_b (qfn fun _ => 0) 28) _ [(0, 91)] [0, 1]
    case hn => rfl
    case hB => kernel_rfl
    case hds => kernel_rfl
    case hA => (intro p; simp only [putsD, Act.put, sIT, sCZ, sCS, gCZ, gCS]; exact rfl)
    case h0 => exact fun p => ⟨Nat.le_refl _, hB, g, r, m, c, d⟩
    case hmore => exact fun p L w1 w2 ⟨hsz, hB, g, r, m, c, d⟩ hm => ⟨Nat.le_trans hsz hm.size, hB.trans (hm.mono (Nat.le_trans hW0 hsz)), g.below hm g.lt, r.below hm r.lt, m.below hm m.lt, c.below hm c.lt, d.below hm d.lt⟩
    case hs =>
     intro more
     refine AllI.cons ?_ ?_
     ·refine stepI_val 0 rfl (fun p => rfl) ?_ (fun _ _ _ h => h)
      intros; (try simp only [vfn, qfn]); go_simp; exact ⟨rfl, rfl⟩
     refine AllI.cons ?_ ?_
     ·refine stepI_store 1 rfl (fun p => rfl) (fun p => rfl) _ _ _ rfl (fun _ => r_b) 0 (fun p => rfl) (fun p => (rssc SSt.zero)) (fun p => congrArg Value.agg rssc_zero) (fun p => (rssc X)) (fun p => (rssc SSt.zero)) 30 (fun p => rsover _ _) (fun p => by first | (rw [rssc_size, rssc_size]; decide) | simp [rssc_size, rssc_size]) (fun p => by rw [rssc_size]; kernel_rfl) (fun p => rssc_one _) ?_ ?_
      ·rintro p L w1 ⟨hsz, hB, g, r, m, c, d⟩ hk
       have L1 : L 1 = false := hk.1
       rw [L1] at r
       try simp only [cond_true, cond_false] at r
       exact r
      ·rintro p L w1 ⟨hsz, hB, g, r, m, c, d⟩ hk
       have L1 : L 1 = false := hk.1
       skip
       refine ⟨(by simpa using hsz), Below.setRow hB (by first | exact Nat.le_trans hW0 hp.1 | exact ge_r | omega | (have := hB.size; simp at this ⊢; omega)) _, g.rowOther ne_g_r _, ?_, m.rowOther (Ne.symm ne_r_m) _, c.rowOther (Ne.symm ne_r_c) _, d.rowOther (Ne.symm ne_r_d) _⟩
       rw [show upL L 1 1 = true from rfl]
       exact r.row _
     exact AllI.nil
    case hV0 => exact fun p q => AllI.nil
    case' he =>
    clear hB g r m c d
    rintro p wrrrrrr ⟨hsz, hB, g, r, m, c, d⟩
    replace r : blk wrrrrrr r_b (rssc SSt.zero) 30 := r
    clear lt_g lt_r lt_m lt_c lt_d hsz hW0
    have HS := K0
    obtain ⟨Yn, hYn⟩ : ∃ Y, SSt.zero = Y := ⟨_, rfl⟩
    rw [hYn] at g r HS
    clear hYn
    go_upto_region 26 with (fail)
    obtain ⟨Cn, hCn⟩ : ∃ C : Nat → Int, (fun _ => 0) = C := ⟨_, rfl⟩
    rw [hCn] at c d
    clear hCn
    generalize hWF : wrrrrrr = WF at *
    clear hWF
   case' cs =>
    intro hR0 hR1 hR2 hR3 hR7
    have r0 : (z == 0) = false := by simp; omega
    have r1 : (z == 1) = false := by simp; omega
    have r2 : (z == 2) = false := by simp; omega
    have r3 : (z == 3) = false := by simp; omega
    have r7 : (z == 7) = false := by simp; omega
    clear hR0 hR1 hR2 hR3 hR7
    go_upto_region 13 with (fail)
    have lt_g := g.lt
    have lt_r := r.lt
    have lt_m := m.lt
    have lt_c := c.lt
    have lt_d := d.lt
    have hW0 : w.heap.size ≤ wrrrr.heap.size := by simpa using hB.size
    apply wp_region_Q 9 [0, 1, 3, 7, 15, 31, 63, 127, 255] [] [_, _, _, _, _, _, _, (fun _ => undef), _] (fun p L w' => wrrrr.heap.size ≤ w'.heap.size ∧ Below w.heap.size w w' ∧ blk w' gb (bif L 3 then (ssc (sunX X V)) else (ssc X)) 65 ∧ blk w' r_b (rssc X) 30 ∧ blk w' m_b (a26c (yw, V, q)) 35 ∧ blk w' c_b (bif L 7 then (qfn (sunC X V)) else (qfn fun _ => 0)) 28 ∧ blk w' d_b (qfn fun _ => 0) 28) _ [(0, 33), (1, 34), (2, 35), (3, 36), (4, 32), (5, 37), (6, 38), (8, 9)] [0, 1, 2, 3, 4, 5, 6, 7, 8]
    case hn => rfl
    case hB => kernel_rfl
    case hds => kernel_rfl
    case hA => (intro p; simp only [putsD, Act.put, sIT, sCZ, sCS, gCZ, gCS]; exact rfl)
    case h0 => exact fun p => ⟨Nat.le_refl _, hB, g, r, m, c, d⟩
    case hmore => exact fun p L w1 w2 ⟨hsz, hB, g, r, m, c, d⟩ hm => ⟨Nat.le_trans hsz hm.size, hB.trans (hm.mono (Nat.le_trans hW0 hsz)), g.below hm g.lt, r.below hm r.lt, m.below hm m.lt, c.below hm c.lt, d.below hm d.lt⟩
    case hs =>
     intro more
     iterate 2 (refine sVV ?_)
     refine sWW ?_ ?_
     ·rintro p L w1 ⟨hsz, hB, g, r, m, c, d⟩ hk
      have L3 : L 3 = false := hk.2.2 3 rfl
      have L7 : L 7 = false := hk.2.2 7 rfl
      exact valR_part _ _ rfl _ 1 rfl _ _ m (sec V) (a26_v yw V q) _ Tryz.underlying33 rfl (by rw [sec_size]; kernel_rfl) rfl
     refine AllI.cons ?_ ?_
     ·refine stepI_mut 3 rfl (fun p => rfl) (fun _ => gb) (fun p => (ssc (sunX X V))) ?_ ?_
      ·rintro p L w1 ⟨hsz, hB, g, r, m, c, d⟩ hk
       have L3 : L 3 = false := hk.1
       have L7 : L 7 = false := hk.2.2 7 rfl
       rw [L3] at g
       try simp only [cond_true, cond_false] at g
       go_simp
       refine (SU.out _ g).mono ?_
       rintro e w2 ⟨rfl, h2⟩
       exact ⟨rfl, h2⟩
      ·rintro p L w1 w2 ⟨hsz, hB, g, r, m, c, d⟩ hk hm
       have L3 : L 3 = false := hk.1
       have L7 : L 7 = false := hk.2.2 7 rfl
       refine ⟨Nat.le_trans hsz (by have := hm.size; simpa using this), (Below.setRow hB (by first | exact Nat.le_trans hW0 hp.1 | exact ge_g | omega | (have := hB.size; simp at this ⊢; omega)) _).trans (hm.mono (Nat.le_trans hW0 hsz)), ?_, (r.rowOther (Ne.symm ne_g_r) _).below hm (by simpa using r.lt), (m.rowOther (Ne.symm ne_g_m) _).below hm (by simpa using m.lt), (c.rowOther (Ne.symm ne_g_c) _).below hm (by simpa using c.lt), (d.rowOther (Ne.symm ne_g_d) _).below hm (by simpa using d.lt)⟩
       rw [show upL L 3 3 = true from rfl]
       exact (g.row _).below hm (by simpa using g.lt)
     iterate 3 (refine sVV ?_)
     refine AllI.cons ?_ ?_
     ·refine stepI_store 7 rfl (fun p => rfl) (fun p => rfl) _ _ _ rfl (fun _ => c_b) 0 (fun p => rfl) (fun p => (qfn (sunC X V))) (fun p => rfl) (fun p => (qfn fun _ => 0)) (fun p => (qfn (sunC X V))) 28 (fun p => over_qq _ _) (fun p => by first | (rw [qfn_size, qfn_size]; decide) | simp [qfn_size, qfn_size]) (fun p => by rw [qfn_size]; kernel_rfl) (fun p => qfn_one _) ?_ ?_
      ·rintro p L w1 ⟨hsz, hB, g, r, m, c, d⟩ hk
       have L3 : L 3 = true := hk.2.1 3 rfl
       have L7 : L 7 = false := hk.1
       rw [L7] at c
       try simp only [cond_true, cond_false] at c
       exact c
      ·rintro p L w1 ⟨hsz, hB, g, r, m, c, d⟩ hk
       have L3 : L 3 = true := hk.2.1 3 rfl
       have L7 : L 7 = false := hk.1
       skip
       refine ⟨(by simpa using hsz), Below.setRow hB (by first | exact Nat.le_trans hW0 hp.1 | exact ge_c | omega | (have := hB.size; simp at this ⊢; omega)) _, g.rowOther ne_g_c _, r.rowOther ne_r_c _, m.rowOther ne_m_c _, ?_, d.rowOther (Ne.symm ne_c_d) _⟩
       rw [show upL L 7 7 = true from rfl]
       exact c.row _
     refine sVV ?_
     exact AllI.nil
    case hV0 => exact fun p q => AllI.nil
    case' he =>
    clear hB g r m c d
    rintro p wrrrrr ⟨hsz, hB, g, r, m, c, d⟩
    replace g : blk wrrrrr gb (ssc (sunX X V)) 65 := g
    replace c : blk wrrrrr c_b (qfn (sunC X V)) 28 := c
    clear lt_g lt_r lt_m lt_c lt_d hsz hW0
    go_upto_region 14 with (fail)
    have lt_g := g.lt
    have lt_r := r.lt
    have lt_m := m.lt
    have lt_c := c.lt
    have lt_d := d.lt
    have hW0 : w.heap.size ≤ wrrrrr.heap.size := by simpa using hB.size
    apply wp_region_Q 11 [0, 1, 3, 7, 15, 31, 63, 127, 255, 511, 1023] [] [_, _, _, _, _, _, _, _, (fun _ => undef), (fun _ => undef), _] (fun p L w' => wrrrrr.heap.size ≤ w'.heap.size ∧ Below w.heap.size w w' ∧ blk w' gb (ssc (sunX X V)) 65 ∧ blk w' r_b (bif L 8 then (rssc (sunX X V)) else (rssc X)) 30 ∧ blk w' m_b (a26c (yw, V, q)) 35 ∧ blk w' c_b (qfn (sunC X V)) 28 ∧ blk w' d_b (bif L 9 then (qfn (sunC X V)) else (qfn fun _ => 0)) 28) _ [(0, 40), (1, 41), (2, 42), (3, 43), (4, 39), (5, 44), (6, 45), (7, 46), (10, 10)] [0, 1, 2, 3, 4, 5, 6, 7, 8, 9, 10]
    case hn => rfl
    case hB => kernel_rfl
    case hds => kernel_rfl
    case hA => (intro p; simp only [putsD, Act.put, sIT, sCZ, sCS, gCZ, gCS]; exact rfl)
    case h0 => exact fun p => ⟨Nat.le_refl _, hB, g, r, m, c, d⟩
    case hmore => exact fun p L w1 w2 ⟨hsz, hB, g, r, m, c, d⟩ hm => ⟨Nat.le_trans hsz hm.size, hB.trans (hm.mono (Nat.le_trans hW0 hsz)), g.below hm g.lt, r.below hm r.lt, m.below hm m.lt, c.below hm c.lt, d.below hm d.lt⟩
    case hs =>
     intro more
     refine sWW ?_ ?_
     ·rintro p L w1 ⟨hsz, hB, g, r, m, c, d⟩ hk
      have L8 : L 8 = false := hk.2.2 8 rfl
      have L9 : L 9 = false := hk.2.2 9 rfl
      rw [L8] at r
      try simp only [cond_true, cond_false] at r
      first | exact valR_row _ _ rfl _ rfl _ _ r _ Tryz.underlying30 rfl (by first | kernel_rfl | (rw [rssc_size]; kernel_rfl)) rfl | (have hc := r.cellIs (show _[0]? = some _ from rfl); go_simp; exact ⟨rfl, rfl⟩)
     refine sVV ?_
     refine sWW ?_ ?_
     ·rintro p L w1 ⟨hsz, hB, g, r, m, c, d⟩ hk
      have L8 : L 8 = false := hk.2.2 8 rfl
      have L9 : L 9 = false := hk.2.2 9 rfl
      exact valR_part _ _ rfl _ 1 rfl _ _ m (sec V) (a26_v yw V q) _ Tryz.underlying33 rfl (by rw [sec_size]; kernel_rfl) rfl
     refine stepD 3 rfl (fun p => rfl) (fun _ _ _ h => h) more ?_ ?_
     ·rintro p L w1 ⟨hsz, hB, g, r, m, c, d⟩ hk
      go_simp
      refine (RU.out _).mono ?_
      rintro e w2 ⟨rfl, h2⟩
      first | exact ⟨rfl, h2⟩ | (subst h2; exact ⟨rfl, Below.refl _ _⟩)
     iterate 4 (refine sVV ?_)
     refine AllI.cons ?_ ?_
     ·refine stepI_store 8 rfl (fun p => rfl) (fun p => rfl) _ _ _ rfl (fun _ => r_b) 0 (fun p => rfl) (fun p => (rssc (sunX X V))) (fun p => rfl) (fun p => (rssc X)) (fun p => (rssc (sunX X V))) 30 (fun p => rsover _ _) (fun p => by first | (rw [rssc_size, rssc_size]; decide) | simp [rssc_size, rssc_size]) (fun p => by rw [rssc_size]; kernel_rfl) (fun p => rssc_one _) ?_ ?_
      ·rintro p L w1 ⟨hsz, hB, g, r, m, c, d⟩ hk
       have L8 : L 8 = false := hk.1
       have L9 : L 9 = false := hk.2.2 9 rfl
       rw [L8] at r
       try simp only [cond_true, cond_false] at r
       exact r
      ·rintro p L w1 ⟨hsz, hB, g, r, m, c, d⟩ hk
       have L8 : L 8 = false := hk.1
       have L9 : L 9 = false := hk.2.2 9 rfl
       skip
       refine ⟨(by simpa using hsz), Below.setRow hB (by first | exact Nat.le_trans hW0 hp.1 | exact ge_r | omega | (have := hB.size; simp at this ⊢; omega)) _, g.rowOther ne_g_r _, ?_, m.rowOther (Ne.symm ne_r_m) _, c.rowOther (Ne.symm ne_r_c) _, d.rowOther (Ne.symm ne_r_d) _⟩
       rw [show upL L 8 8 = true from rfl]
       exact r.row _
     refine AllI.cons ?_ ?_
     ·refine stepI_store 9 rfl (fun p => rfl) (fun p => rfl) _ _ _ rfl (fun _ => d_b) 0 (fun p => rfl) (fun p => (qfn (sunC X V))) (fun p => rfl) (fun p => (qfn fun _ => 0)) (fun p => (qfn (sunC X V))) 28 (fun p => over_qq _ _) (fun p => by first | (rw [qfn_size, qfn_size]; decide) | simp [qfn_size, qfn_size]) (fun p => by rw [qfn_size]; kernel_rfl) (fun p => qfn_one _) ?_ ?_
      ·rintro p L w1 ⟨hsz, hB, g, r, m, c, d⟩ hk
       have L8 : L 8 = true := hk.2.1 8 rfl
       have L9 : L 9 = false := hk.1
       rw [L9] at d
       try simp only [cond_true, cond_false] at d
       exact d
      ·rintro p L w1 ⟨hsz, hB, g, r, m, c, d⟩ hk
       have L8 : L 8 = true := hk.2.1 8 rfl
       have L9 : L 9 = false := hk.1
       skip
       refine ⟨(by simpa using hsz), Below.setRow hB (by first | exact Nat.le_trans hW0 hp.1 | exact ge_d | omega | (have := hB.size; simp at this ⊢; omega)) _, g.rowOther ne_g_d _, r.rowOther ne_r_d _, m.rowOther ne_m_d _, c.rowOther ne_c_d _, ?_⟩
       rw [show upL L 9 9 = true from rfl]
       exact d.row _
     refine sVV ?_
     exact AllI.nil
    case hV0 => exact fun p q => AllI.nil
    case' he =>
    clear hB g r m c d
    rintro p wrrrrrr ⟨hsz, hB, g, r, m, c, d⟩
    replace r : blk wrrrrrr r_b (rssc (sunX X V)) 30 := r
    replace d : blk wrrrrrr d_b (qfn (sunC X V)) 28 := d
    clear lt_g lt_r lt_m lt_c lt_d hsz hW0
    have HS := Lib.hid ((sunX_S HX.out V).1)
    generalize (sunX X V) = Yn at *
    generalize (sunC X V) = Cn at *
    generalize okE (senseOk V) = En at *
    have n0 : (En != En) = false := by simp
    generalize hWF : wrrrrrr = WF at *
    clear hWF
    go_upto_region 26 with (fail)
   all_goals
    clear RE SU PO RR RU RP HX RT
    have CO := Lib.hid (fun w (g : blk w gb (ssc Yn) 65) => tcmd_any Yn gb w g)
    have E1 : ∀ w, (Op.equalIn 10000 27 (.agg (vfn Yn.D)) (.agg (vfn Yn.D))).run Tryz.prog w = .ok true w := fun w => vec_eq_self _ w
    have E2 : ∀ w, (Op.equalIn 10000 28 (.agg (qfn Cn)) (.agg (qfn Cn))).run Tryz.prog w = .ok true w := fun w => by rw [spdq_eq]; first | (congr 1; done) | (congr 1; simp)
    have lt_g := g.lt
    have lt_r := r.lt
    have lt_m := m.lt
    have lt_c := c.lt
    have lt_d := d.lt
    have hW0 : w.heap.size ≤ WF.heap.size := by simpa using hB.size
    apply wp_region_I 15 [0, 0, 3, 7, 15, 15, 63, 127, 255, 511, 1023, 511, 2559, 8191, 16383] [] [_, _, _, _, _, _, _, _, _, _, _, _, _, _, _] (fun p L w' => WF.heap.size ≤ w'.heap.size ∧ Below w.heap.size w w' ∧ blk w' gb (ssc Yn) 65 ∧ blk w' r_b (rssc Yn) 30 ∧ blk w' m_b (a26c (yw, V, q)) 35 ∧ blk w' c_b (qfn Cn) 28 ∧ blk w' d_b (qfn Cn) 28) _ [(0, 92), (1, 93), (2, 94), (3, 95), (4, 96), (5, 97), (6, 98), (7, 99), (8, 100), (9, 101), (10, 102), (11, 103), (12, 104), (13, 105), (14, 106)] [0, 1, 2, 3, 4, 5, 6, 7, 8, 9, 10, 11, 12, 13, 14]
    case hn => rfl
    case hm => kernel_rfl
    case hB => kernel_rfl
    case hds => kernel_rfl
    case hA => (intro p; simp only [putsD, Act.put, sIT, sCZ, sCS, gCZ, gCS]; exact rfl)
    case h0 => exact fun p => ⟨Nat.le_refl _, hB.drew, g.drew, r.drew, m.drew, c.drew, d.drew⟩
    case hmore => exact fun p L w1 w2 ⟨hsz, hB, g, r, m, c, d⟩ hm => ⟨Nat.le_trans hsz hm.size, hB.trans (hm.mono (Nat.le_trans hW0 hsz)), g.below hm g.lt, r.below hm r.lt, m.below hm m.lt, c.below hm c.lt, d.below hm d.lt⟩
    case hs =>
     intro more
     refine sWW ?_ ?_
     ·rintro p L w1 ⟨hsz, hB, g, r, m, c, d⟩ hk
      first | exact valR_row _ _ rfl _ rfl _ _ c _ Tryz.underlying28 rfl (by first | kernel_rfl | (rw [qfn_size]; kernel_rfl)) rfl | (have hc := c.cellIs (qfn_get _ (show 0 < 4 by omega)); go_simp; exact ⟨rfl, rfl⟩)
     refine sWW ?_ ?_
     ·rintro p L w1 ⟨hsz, hB, g, r, m, c, d⟩ hk
      first | exact valR_row _ _ rfl _ rfl _ _ d _ Tryz.underlying28 rfl (by first | kernel_rfl | (rw [qfn_size]; kernel_rfl)) rfl | (have hc := d.cellIs (qfn_get _ (show 0 < 4 by omega)); go_simp; exact ⟨rfl, rfl⟩)
     iterate 2 (refine sVV ?_)
     iterate 3 (refine stepVg _ rfl (fun p => (by first | rfl | (simp [Region.wanted, yielded]; done))) (fun _ _ _ h => h) (by intros; go_simp; exact ⟨rfl, rfl⟩) ?_)
     iterate 2 (refine sVV ?_)
     refine stepVg _ rfl (fun p => (by first | rfl | (simp [Region.wanted, yielded]; done))) (fun _ _ _ h => h) (by intros; go_simp; exact ⟨rfl, rfl⟩) ?_
     refine stepD 10 rfl (fun p => (by first | rfl | (simp [Region.wanted, yielded]; done))) (fun _ _ _ h => h) more ?_ ?_
     ·rintro p L w1 ⟨hsz, hB, g, r, m, c, d⟩ hk
      go_simp
      refine (CO.out _ g).mono ?_
      rintro e w2 ⟨rfl, h2⟩
      first | exact ⟨rfl, h2⟩ | (subst h2; exact ⟨rfl, Below.refl _ _⟩)
     refine stepVg _ rfl (fun p => (by first | rfl | (simp [Region.wanted, yielded]; done))) (fun _ _ _ h => h) (by intros; go_simp; exact ⟨rfl, rfl⟩) ?_
     refine stepVg 12 rfl (fun p => (by first | rfl | (simp [Region.wanted, yielded]; done))) (fun _ _ _ h => h) ?_ ?_
     ·rintro p L w1 ⟨hsz, hB, g, r, m, c, d⟩ hk
      exact valR_part _ _ rfl _ 0 rfl _ _ r (vfn Yn.D) (rs_D Yn) _ Tryz.underlying27 rfl (by rw [vfn_size]; kernel_rfl) rfl
     refine stepVg _ rfl (fun p => (by first | rfl | (simp [Region.wanted, yielded]; done))) (fun _ _ _ h => h) (by intros; go_simp; exact ⟨rfl, rfl⟩) ?_
     refine sVV ?_
     exact AllI.nil
    case hV0 => exact fun p q => AllI.nil
    case he =>
    clear hB g r m c d
    rintro p WFr ⟨hsz, hB, g, r, m, c, d⟩
    clear lt_g lt_r lt_m lt_c lt_d hsz hW0
    go_wp2_with (fail)
    go_roundg (n - (K + 1))
    case rel => exact ⟨K + 1, nrm Yn, by omega, rfl, nrm_I HS.out, nrm_z Yn, by rw [nrm_s]; exact g, by rw [nrm_r]; exact r, hB⟩
    case measure => omega
  ·obtain rfl : K = n := by omega
   have hdK : decide ((K : Int) < K) = false := decide_eq_false (by omega)
   have hdK' : decide (K < K) = false := decide_eq_false (by omega)
   go_wp2_with (first
    | (go_at_call 5; with_reducible refine (AW.out _).mono ?_; rintro e w9 ⟨rfl, hb⟩; replace hB := hB.trans (hb.mono hB.size); clear hb))
   go_ret
   exact ⟨rfl, hB⟩
theorem splays_any (a : Option Addr) (n c : Nat) (x : Nat → (Int × SeT × (Nat → Int))) (w : World) (el : ElemsA w a n 20 (fun k => (a26c (x k)).toList)) (hx : ∀ k, k < n → (∀ i, i < 4 → I64 ((x k).2.1.att i)) ∧ ∀ i, i < 4 → I64 ((x k).2.2 i)) : Calls Tryz.prog 3 #[.slice a n c] w fun e w' => e = .returned (.bool true) ∧ Below w.heap.size w w' := by
 by_cases hn : 60 < n
 ·exact splays_no a n c w hn
 ·exact splays_ok a n c x w (by omega) el hx
end Go.Proofs.YtkmelddejdikgaaGreat
