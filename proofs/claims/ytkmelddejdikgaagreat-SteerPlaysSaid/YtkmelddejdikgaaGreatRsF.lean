/-
  Unit vectors in the specification. Of the specification: Sun, refused; behind. Of the specification: Sun.
-/
import Derived.Test.YtkmelddejdikgaaGreatVUnit
import Derived.Test.YtkmelddejdikgaaGreatRsD
import Derived.Test.YtkmelddejdikgaaGreatStC
import Derived.Test.YtkmelddejdikgaaGreatUnitR
set_option maxRecDepth 100000
set_option linter.unusedSimpArgs false
set_option linter.unusedVariables false
namespace Go.Proofs.YtkmelddejdikgaaGreat
open Go.RowKit PM Dt
set_option maxHeartbeats 1500000 in
theorem rvunit_any (f : Nat → Int) (w : World) (hI : ∀ i, i < 3 → I64 (f i)) : Calls Tryz.prog 37 #[.agg (vfn f)] w fun e w' => e = .returned (.tuple #[.agg (vfn (vunF f)), .int .i64 (vunE f)]) ∧ Below w.heap.size w w' := by
 have V := Lib.hid (fun w => rvalid_any f w)
 have EQ0 := vec_eq0 f
 unfold vunF vunE
 obtain ⟨X, hX⟩ : ∃ X, vuX f = X := ⟨_, rfl⟩
 rw [hX]
 have HX := Lib.hid hX
 clear hX
 obtain ⟨bk, hk⟩ : ∃ b, okV f = b := ⟨_, rfl⟩
 obtain ⟨bz, hz⟩ : ∃ b, zV f = b := ⟨_, rfl⟩
 rw [hk] at V ⊢
 rw [hz] at EQ0 ⊢
 have HK := Lib.hid hk
 have HZ := Lib.hid hz
 have HI := Lib.hid hI
 clear hk hz hI
 go_enter Tryz.func37, Tryz.ntmps37
 go_upto_region 1 with (fail)
 rw [zero_vec]
 have p : blk ((w.alloc (.cells (vfn f) 27)).alloc (.cells (vfn fun _ => 0) 27)) w.heap.size (vfn f) 27 := (blk.new _ _ _).alloc _
 have r : blk ((w.alloc (.cells (vfn f) 27)).alloc (.cells (vfn fun _ => 0) 27)) (w.heap.size + 1) (vfn fun _ => 0) 27 := blk.new' (by simp)
 have hB : Below w.heap.size w ((w.alloc (.cells (vfn f) 27)).alloc (.cells (vfn fun _ => 0) 27)) := by go_grown
 generalize (w.alloc (.cells (vfn f) 27)).alloc (.cells (vfn fun _ => 0) 27) = w0 at *
 cases bk
 ·go_wp2_with (first | (refine wpList_load_rowG ?hw _ _ rfl _ rfl _ _ _ _ p Tryz.underlying27 rfl ?hi ?_; (case hw => (first | rfl | (simp [Region.wanted, yielded]; done))); (case hi => (rw [vfn_size]; kernel_rfl))) | (go_at_call 78; with_reducible refine (V.out _).mono ?_; rintro e w1 ⟨rfl, hb⟩; replace hB := hB.trans (hb.mono hB.size); replace p := p.below hb p.lt; replace r := r.below hb r.lt; clear hb) | (rw [zero_vec]; refine wpList_store_row rfl _ _ _ rfl _ rfl _ rfl _ _ r (by rw [vfn_size]; kernel_rfl) (by simp only [vfn_size]) (vfn_one _) ?_))
  refine bodyPost_ret (results_vec rfl _ _ _ _ _ _ _ rfl (r.row (vfn (fun _ => 0))) Tryz.underlying27 rfl (by rw [vfn_size]; kernel_rfl)) rfl ?_; refine ⟨?_, Below.setRow hB (by omega) _⟩
  rfl
 cases bz
 case true =>
  have e0 := Lib.hid (zV_yes HZ.out)
  go_wp2_with (first | (refine wpList_load_rowG ?hw _ _ rfl _ rfl _ _ _ _ p Tryz.underlying27 rfl ?hi ?_; (case hw => (first | rfl | (simp [Region.wanted, yielded]; done))); (case hi => (rw [vfn_size]; kernel_rfl))) | (go_at_call 78; with_reducible refine (V.out _).mono ?_; rintro e w1 ⟨rfl, hb⟩; replace hB := hB.trans (hb.mono hB.size); replace p := p.below hb p.lt; replace r := r.below hb r.lt; clear hb) | (rw [zero_vec]; refine wpList_store_row rfl _ _ _ rfl _ rfl _ rfl _ _ r (by rw [vfn_size]; kernel_rfl) (by simp only [vfn_size]) (vfn_one _) ?_))
  refine bodyPost_ret (results_vec rfl _ _ _ _ _ _ _ rfl (r.row (vfn (fun _ => 0))) Tryz.underlying27 rfl (by rw [vfn_size]; kernel_rfl)) rfl ?_; refine ⟨?_, Below.setRow hB (by omega) _⟩
  rfl
 have HL := zV_no HZ.out
 have HU := ok_upb3 HK.out
 have SH := Lib.hid (fun a c w hr => shifted_any 3 f a c w (by omega) (by omega) hr HL HU)
 have hFu := Lib.hid (shft_upb 45 f HU)
 have hnI := fitV_I (n3 (shft 3 45 f))
 obtain ⟨F, hF⟩ : ∃ F, shft 3 45 f = F := ⟨_, rfl⟩
 rw [hF] at SH hFu hnI
 have HN := Lib.hid (fun b c w p => rhyp3_any F b c w (fun i hi => upb_I hFu.out i hi) p)
 have HX2 : Hid (∀ i, X i = ratioV (F i) 1073741824 (fitV (n3 F))) := by intro i; rw [← HX.out]; unfold vuX; rw [hF]
 generalize fitV (n3 F) = N at *
 generalize fitE (n3 F) = E at *
 clear hF HL HU HX HK HZ
 go_upto_region 6 with (first | (refine wpList_load_rowG ?hw _ _ rfl _ rfl _ _ _ _ p Tryz.underlying27 rfl ?hi ?_; (case hw => (first | rfl | (simp [Region.wanted, yielded]; done))); (case hi => (rw [vfn_size]; kernel_rfl))) | (go_at_call 78; with_reducible refine (V.out _).mono ?_; rintro e w1 ⟨rfl, hb⟩; replace hB := hB.trans (hb.mono hB.size); replace p := p.below hb p.lt; replace r := r.below hb r.lt; clear hb) | (go_at_call 88; refine (SH.out _ _ _ (rowb_qfn p (fun j hj => vfn_get f hj))).mono ?_; rintro e w2 ⟨pb, cap, rfl, rp, hpb, hb⟩; have hpb2 : w.heap.size < pb := Nat.lt_of_lt_of_le p.lt hpb; replace hB := hB.trans (hb.mono hB.size); replace p := p.below hb p.lt; replace r := r.below hb r.lt; clear hb hpb))
 go_upto_region 7 with (go_at_call 80; refine (HN.out _ _ _ rp).mono ?_; rintro e w3 ⟨rfl, hb⟩; replace hB := hB.trans (hb.mono hB.size); replace p := p.below hb p.lt; replace r := r.below hb r.lt; replace rp := rp.below hb rp.lt; clear hb)
 go_wp2_with (fail)
 go_loopg [7] 3 (fun g_ iv wr => ∃ k : Nat, g_ + k = 3 ∧ iv = .int .i64 k ∧ blk wr w.heap.size (vfn (fun q => if q < k then X q else f q)) 27 ∧ blk wr (w.heap.size + 1) (vfn fun _ => 0) 27 ∧ rowb wr pb 3 F ∧ Below w.heap.size w wr)
 case atStart => exact ⟨0, rfl, rfl, by rw [show vfn (fun q => if q < 0 then X q else f q) = vfn f from vfn_congr fun q _ => by simp]; exact p, r, rp, hB⟩
 case round =>
  clear p r rp hB
  obtain ⟨k, hk, rfl, p, r, rp, hB⟩ := hrel
  by_cases hkn : k < 3
  ·have hdk : decide ((k : Int) < 3) = true := decide_eq_true (by omega)
   have hdk' : decide (k < 3) = true := decide_eq_true hkn
   have hw3 : IntKind.i64.wrap ((k : Int) + 1) = ((k + 1 : Nat) : Int) := by rw [IntKind.wrap_i64]; omega
   have hk3 : (k : Int) < 3 := by omega
   have ck : wr.cell? ⟨pb, k, none⟩ = some (.int .i64 (F k)) := rp.cell hkn
   have RK := Lib.hid (fun w => rratio_any (F k) 1073741824 N w (upb_I hFu.out k hkn) ⟨by decide, by decide⟩ hnI)
   rw [← HX2.out k] at RK
   generalize ratioE (F k) 1073741824 N = YE at *
   go_wp2_with (go_at_call 89; refine (RK.out _).mono ?_; rintro e w5 ⟨rfl, hb⟩; replace hB := hB.trans (hb.mono hB.size); replace p := p.below hb p.lt; replace r := r.below hb r.lt; replace rp := rp.below hb rp.lt; clear hb; have fz : w5.frozen? ⟨w.heap.size, k, none⟩ = false := p.free _; have cz : w5.cell? ⟨w.heap.size, k, none⟩ = some (.int .i64 (f k)) := (p.cellIs (vfn_get _ hkn)).trans (by simp))
   go_roundg (3 - (k + 1))
   case rel =>
    refine ⟨k + 1, by omega, rfl, p.set' (vfn_set hkn (by simp) (fun q hq hne => ?_)), r.setOther (by simp) _, rp.setOther (by simp; omega) _, hB.setCell (by simp) _⟩
    have : (q < k + 1) = (q < k) := propext (by omega)
    simp only [this]
   case measure => omega
  ·obtain rfl : k = 3 := by omega
   have e4 : vfn (fun q => if q < 3 then X q else f q) = vfn X := vfn_congr fun q hq => by simp [hq]
   rw [e4] at p
   go_wp2_with (first | (refine wpList_load_rowG ?hw _ _ rfl _ rfl _ _ _ _ p Tryz.underlying27 rfl ?hi ?_; (case hw => (first | rfl | (simp [Region.wanted, yielded]; done))); (case hi => (rw [vfn_size]; kernel_rfl))) | (refine wpList_store_row rfl _ _ _ rfl _ rfl _ rfl _ _ r (by rw [vfn_size]; kernel_rfl) (by simp only [vfn_size]) (vfn_one _) ?_))
   refine bodyPost_ret (results_vec rfl _ _ _ _ _ _ _ rfl (r.row (vfn X)) Tryz.underlying27 rfl (by rw [vfn_size]; kernel_rfl)) rfl ?_; refine ⟨?_, Below.setRow hB (by omega) _⟩
   rfl
structure Flg (n : Nat) : Prop where
 ok : True
theorem acrN_eq (S : Nat → Int) : acrN S = (decide (S 0 < 16777216) && (decide (-16777216 < S 0) && (decide (S 1 < 16777216) && decide (-16777216 < S 1)))) := by
 have mxl : ∀ a b c : Int, mx a b < c ↔ a < c ∧ b < c := fun a b c => by unfold mx; split <;> omega
 unfold acrN
 simp only [List.foldl_cons, List.foldl_nil]
 rw [Bool.eq_iff_iff]
 simp only [Bool.and_eq_true, decide_eq_true_eq, mxl]
 omega
set_option maxHeartbeats 4000000 in
theorem rbehind_any (S : Nat → Int) (w : World) : Calls Tryz.prog 36 #[.agg (vfn S)] w fun e w' => e = .returned (.bool (acrN S)) ∧ Below w.heap.size w w' := by
 rw [acrN_eq]
 obtain ⟨b0, h0⟩ : ∃ b, decide (S 0 < 16777216) = b := ⟨_, rfl⟩
 rw [h0]
 obtain ⟨b1, h1⟩ : ∃ b, decide (-16777216 < S 0) = b := ⟨_, rfl⟩
 rw [h1]
 obtain ⟨b2, h2⟩ : ∃ b, decide (S 1 < 16777216) = b := ⟨_, rfl⟩
 rw [h2]
 obtain ⟨b3, h3⟩ : ∃ b, decide (-16777216 < S 1) = b := ⟨_, rfl⟩
 rw [h3]
 cases b0 <;> cases b1 <;> cases b2 <;> cases b3
 all_goals
  go_enter Tryz.func36, Tryz.ntmps36
  go_upto_region 1 with (fail)
  have v : blk (w.alloc (.cells (vfn S) 27)) w.heap.size (vfn S) 27 := blk.new _ _ _
  have hB : Below w.heap.size w (w.alloc (.cells (vfn S) 27)) := by go_grown
  generalize (w.alloc (.cells (vfn S) 27)) = w0 at *
  have hc0 : w0.cell? ⟨w.heap.size, 0, none⟩ = some (.int .i64 (S 0)) := v.cellIs (vfn_get _ (by omega))
  have hc1 : w0.cell? ⟨w.heap.size, 1, none⟩ = some (.int .i64 (S 1)) := v.cellIs (vfn_get _ (by omega))
  go_wp2_with (fail)
  go_ret
  exact ⟨rfl, hB⟩
set_option maxHeartbeats 6000000 in
theorem rsun_no (X : SSt) (V : SeT) (w : World) (hk : senseOk V = false) : Calls Tryz.prog 13 #[.agg (rssc X), .agg (sec V)] w fun e w' => e = .returned (.tuple #[.agg (rssc X), .agg (qfn fun _ => 0), .int .i64 2]) ∧ Below w.heap.size w w' := by
 have RV := Lib.hid (fun w => rsval_any V w)
 rw [hk] at RV
 clear hk
 go_enter Tryz.func13, Tryz.ntmps13
 go_upto_region 1 with (fail)
 simp only [rssc_zero, zero_spd]
 have y : blk ((((w.alloc (.cells (rssc X) 30)).alloc (.cells (sec V) 33)).alloc (.cells (rssc SSt.zero) 30)).alloc (.cells (qfn fun _ => 0) 28)) w.heap.size (rssc X) 30 := (((blk.new _ _ _).alloc _).alloc _).alloc _
 have v : blk ((((w.alloc (.cells (rssc X) 30)).alloc (.cells (sec V) 33)).alloc (.cells (rssc SSt.zero) 30)).alloc (.cells (qfn fun _ => 0) 28)) (w.heap.size + 1) (sec V) 33 := ((blk.new' (by simp)).alloc _).alloc _
 have r1 : blk ((((w.alloc (.cells (rssc X) 30)).alloc (.cells (sec V) 33)).alloc (.cells (rssc SSt.zero) 30)).alloc (.cells (qfn fun _ => 0) 28)) (w.heap.size + 2) (rssc SSt.zero) 30 := (blk.new' (by simp)).alloc _
 have r2 : blk ((((w.alloc (.cells (rssc X) 30)).alloc (.cells (sec V) 33)).alloc (.cells (rssc SSt.zero) 30)).alloc (.cells (qfn fun _ => 0) 28)) (w.heap.size + 3) (qfn fun _ => 0) 28 := blk.new' (by simp)
 have hB : Below w.heap.size w ((((w.alloc (.cells (rssc X) 30)).alloc (.cells (sec V) 33)).alloc (.cells (rssc SSt.zero) 30)).alloc (.cells (qfn fun _ => 0) 28)) := by go_grown
 generalize ((((w.alloc (.cells (rssc X) 30)).alloc (.cells (sec V) 33)).alloc (.cells (rssc SSt.zero) 30)).alloc (.cells (qfn fun _ => 0) 28)) = w0 at *
 go_upto_region 2 with (first | (refine wpList_load_rowG ?hw _ _ rfl _ rfl _ _ _ _ v Tryz.underlying33 rfl ?hi ?_; (case hw => (first | rfl | (simp [Region.wanted, yielded]; done))); (case hi => (first | kernel_rfl | (rw [sec_size]; kernel_rfl)))) | (go_at_call 24; with_reducible refine (RV.out _).mono ?_; rintro e wv ⟨rfl, hb⟩; replace hB := hB.trans (hb.mono hB.size); replace y := y.below hb y.lt; replace v := v.below hb v.lt; replace r1 := r1.below hb r1.lt; replace r2 := r2.below hb r2.lt; clear hb))
 clear RV
 have lt_y := y.lt
 have lt_v := v.lt
 have lt_r1 := r1.lt
 have lt_r2 := r2.lt
 have hW0 : w.heap.size ≤ wv.heap.size := by simpa using hB.size
 apply wp_region_Q 5 [0, 1, 3, 7, 15] [] [_, _, (fun _ => undef), (fun _ => undef), _] (fun p L w' => wv.heap.size ≤ w'.heap.size ∧ Below w.heap.size w w' ∧ blk w' w.heap.size (rssc X) 30 ∧ blk w' (w.heap.size + 1) (sec V) 33 ∧ blk w' (w.heap.size + 2) (bif L 2 then (rssc X) else (rssc SSt.zero)) 30 ∧ blk w' (w.heap.size + 3) (bif L 3 then (qfn (fun _ => 0)) else (qfn fun _ => 0)) 28) _ [(0, 15), (1, 16), (4, 6)] [0, 1, 2, 3, 4]
 case hn => rfl
 case hB => kernel_rfl
 case hds => kernel_rfl
 case hA => (intro p; simp only [putsD, Act.put, sIT, sCZ, sCS, gCZ, gCS]; exact rfl)
 case h0 => exact fun p => ⟨Nat.le_refl _, hB, y, v, r1, r2⟩
 case hmore => exact fun p L w1 w2 ⟨hsz, hB, y, v, r1, r2⟩ hm => ⟨Nat.le_trans hsz hm.size, hB.trans (hm.mono (Nat.le_trans hW0 hsz)), y.below hm y.lt, v.below hm v.lt, r1.below hm r1.lt, r2.below hm r2.lt⟩
 case hs =>
  intro more
  refine sWW ?_ ?_
  ·rintro p L w1 ⟨hsz, hB, y, v, r1, r2⟩ hk
   have L2 : L 2 = false := hk.2.2 2 rfl
   have L3 : L 3 = false := hk.2.2 3 rfl
   first | exact valR_row _ _ rfl _ rfl _ _ y _ Tryz.underlying30 rfl (by first | kernel_rfl | (rw [rssc_size]; kernel_rfl)) rfl | (have hc := y.cellIs (show _[0]? = some _ from rfl); go_simp; exact ⟨rfl, rfl⟩)
  refine AllI.cons ?_ ?_
  ·refine stepI_val 1 rfl (fun p => rfl) ?_ (fun _ _ _ h => h)
   intros; (try simp only [vfn, qfn]); go_simp; exact ⟨rfl, rfl⟩
  refine AllI.cons ?_ ?_
  ·refine stepI_store 2 rfl (fun p => rfl) (fun p => rfl) _ _ _ rfl (fun _ => (w.heap.size + 2)) 0 (fun p => rfl) (fun p => (rssc X)) (fun p => rfl) (fun p => (rssc SSt.zero)) (fun p => (rssc X)) 30 (fun p => rsover _ _) (fun p => by first | (rw [rssc_size, rssc_size]; decide) | simp [rssc_size, rssc_size]) (fun p => by rw [rssc_size]; kernel_rfl) (fun p => rssc_one _) ?_ ?_
   ·rintro p L w1 ⟨hsz, hB, y, v, r1, r2⟩ hk
    have L2 : L 2 = false := hk.1
    have L3 : L 3 = false := hk.2.2 3 rfl
    rw [L2] at r1
    try simp only [cond_true, cond_false] at r1
    exact r1
   ·rintro p L w1 ⟨hsz, hB, y, v, r1, r2⟩ hk
    have L2 : L 2 = false := hk.1
    have L3 : L 3 = false := hk.2.2 3 rfl
    skip
    refine ⟨(by simpa using hsz), Below.setRow hB (by first | exact Nat.le_trans hW0 hp.1 | exact ge_r1 | omega | (have := hB.size; simp at this ⊢; omega)) _, y.rowOther (by first | exact ne_y_r1 | exact Ne.symm ne_r1_y | omega) _, v.rowOther (by first | exact ne_v_r1 | exact Ne.symm ne_r1_v | omega) _, ?_, r2.rowOther (by first | exact ne_r2_r1 | exact Ne.symm ne_r1_r2 | omega) _⟩
    rw [show upL L 2 2 = true from rfl]
    exact r1.row _
  refine AllI.cons ?_ ?_
  ·refine stepI_store 3 rfl (fun p => rfl) (fun p => rfl) _ _ _ rfl (fun _ => (w.heap.size + 3)) 0 (fun p => rfl) (fun p => (qfn (fun _ => 0))) (fun p => congrArg Value.agg zero_spd) (fun p => (qfn fun _ => 0)) (fun p => (qfn (fun _ => 0))) 28 (fun p => over_qq _ _) (fun p => by first | (rw [qfn_size, qfn_size]; decide) | simp [qfn_size, qfn_size]) (fun p => by rw [qfn_size]; kernel_rfl) (fun p => qfn_one _) ?_ ?_
   ·rintro p L w1 ⟨hsz, hB, y, v, r1, r2⟩ hk
    have L2 : L 2 = true := hk.2.1 2 rfl
    have L3 : L 3 = false := hk.1
    rw [L3] at r2
    try simp only [cond_true, cond_false] at r2
    exact r2
   ·rintro p L w1 ⟨hsz, hB, y, v, r1, r2⟩ hk
    have L2 : L 2 = true := hk.2.1 2 rfl
    have L3 : L 3 = false := hk.1
    skip
    refine ⟨(by simpa using hsz), Below.setRow hB (by first | exact Nat.le_trans hW0 hp.1 | exact ge_r2 | omega | (have := hB.size; simp at this ⊢; omega)) _, y.rowOther (by first | exact ne_y_r2 | exact Ne.symm ne_r2_y | omega) _, v.rowOther (by first | exact ne_v_r2 | exact Ne.symm ne_r2_v | omega) _, r1.rowOther (by first | exact ne_r1_r2 | exact Ne.symm ne_r2_r1 | omega) _, ?_⟩
    rw [show upL L 3 3 = true from rfl]
    exact r2.row _
  refine sVV ?_
  exact AllI.nil
 case hV0 => exact fun p q => AllI.nil
 case he =>
 clear hB y v r1 r2
 rintro p wvr ⟨hsz, hB, y, v, r1, r2⟩
 replace r1 : blk wvr (w.heap.size + 2) (rssc X) 30 := r1
 replace r2 : blk wvr (w.heap.size + 3) (qfn (fun _ => 0)) 28 := r2
 clear lt_y lt_v lt_r1 lt_r2 hsz hW0
 go_wp2_with (fail)
 refine bodyPost_ret (results_cct rfl _ _ _ _ _ _ _ _ _ _ _ _ rfl r1 rfl r2 Tryz.underlying30 rfl (by first | kernel_rfl | (rw [rssc_size]; kernel_rfl)) Tryz.underlying28 rfl (by first | kernel_rfl | (rw [qfn_size]; kernel_rfl))) rfl ?_
 refine ⟨?_, hB⟩
 rfl
set_option maxHeartbeats 60000000 in
theorem rsun_ok (X : SSt) (V : SeT) (A1 A2 : Nat → Int) (w : World) (hk : senseOk V = true) (hD : ∀ i, i < 3 → -4194304 ≤ X.D i ∧ X.D i ≤ 4194304) (hT : ∀ i, i < 3 → -1099511627776 ≤ vscaleF A2 4194304 i ∧ vscaleF A2 4194304 i ≤ 1099511627776) (hS : ∀ i, i < 3 → -4294967296 ≤ V.sun i ∧ V.sun i ≤ 4294967296)
 (hc : Hid ((zV X.A = true ∧ arrB X V = false ∧ True ∧ True ∧ A1 = X.A ∧ zV A1 = true ∧ True ∧ True ∧ True ∧ True ∧ A2 = A1 ∧ Flg 0 ∧ Flg 0 ∧ Flg 0 ∧ Flg 0 ∧ Flg 0 ∧ Flg 1 ∧ Flg 0 ∧ Flg 0 ∧ Flg 0 ∧ Flg 0) ∨
 (zV X.A = true ∧ arrB X V = true ∧ True ∧ True ∧ A1 = X.A ∧ zV A1 = true ∧ zV X.D = false ∧ True ∧ True ∧ True ∧ A2 = A1 ∧ Flg 0 ∧ Flg 0 ∧ Flg 0 ∧ Flg 0 ∧ Flg 0 ∧ Flg 1 ∧ Flg 1 ∧ Flg 0 ∧ Flg 0 ∧ Flg 0) ∨
 (zV X.A = true ∧ arrB X V = true ∧ True ∧ True ∧ A1 = X.A ∧ zV A1 = true ∧ zV X.D = true ∧ zV V.rate = false ∧ True ∧ True ∧ A2 = A1 ∧ Flg 0 ∧ Flg 0 ∧ Flg 0 ∧ Flg 0 ∧ Flg 0 ∧ Flg 1 ∧ Flg 1 ∧ Flg 1 ∧ Flg 0 ∧ Flg 0) ∨
 (zV X.A = true ∧ arrB X V = true ∧ zV V.sun = true ∧ True ∧ A1 = X.A ∧ zV A1 = true ∧ zV X.D = true ∧ zV V.rate = true ∧ True ∧ True ∧ A2 = A1 ∧ Flg 0 ∧ Flg 0 ∧ Flg 0 ∧ Flg 0 ∧ Flg 0 ∧ Flg 1 ∧ Flg 1 ∧ Flg 1 ∧ Flg 1 ∧ Flg 0) ∨
 (zV X.A = true ∧ arrB X V = true ∧ zV V.sun = false ∧ True ∧ A1 = X.A ∧ zV A1 = true ∧ zV X.D = true ∧ zV V.rate = true ∧ decide (4 * V.sun 2 < 3221225472) = false ∧ True ∧ A2 = A1 ∧ Flg 0 ∧ Flg 0 ∧ Flg 0 ∧ Flg 0 ∧ Flg 0 ∧ Flg 1 ∧ Flg 1 ∧ Flg 1 ∧ Flg 1 ∧ Flg 1) ∨
 (zV X.A = true ∧ arrB X V = true ∧ zV V.sun = false ∧ True ∧ A1 = X.A ∧ zV A1 = true ∧ zV X.D = true ∧ zV V.rate = true ∧ decide (4 * V.sun 2 < 3221225472) = true ∧ acrN V.sun = true ∧ A2 = of3 1073741824 0 0 ∧ Flg 0 ∧ Flg 1 ∧ Flg 0 ∧ Flg 0 ∧ Flg 0 ∧ Flg 1 ∧ Flg 1 ∧ Flg 1 ∧ Flg 1 ∧ Flg 1) ∨
 (zV X.A = true ∧ arrB X V = true ∧ zV V.sun = false ∧ True ∧ A1 = X.A ∧ zV A1 = true ∧ zV X.D = true ∧ zV V.rate = true ∧ decide (4 * V.sun 2 < 3221225472) = true ∧ acrN V.sun = false ∧ A2 = vunF (acrX V.sun) ∧ Flg 0 ∧ Flg 2 ∧ Flg 0 ∧ Flg 0 ∧ Flg 0 ∧ Flg 1 ∧ Flg 1 ∧ Flg 1 ∧ Flg 1 ∧ Flg 1) ∨
 (zV X.A = false ∧ arrB X V = false ∧ True ∧ True ∧ A1 = (fun _ => 0) ∧ zV A1 = true ∧ True ∧ True ∧ True ∧ True ∧ A2 = A1 ∧ Flg 1 ∧ Flg 0 ∧ Flg 1 ∧ Flg 0 ∧ Flg 0 ∧ Flg 1 ∧ Flg 0 ∧ Flg 0 ∧ Flg 0 ∧ Flg 0) ∨
 (zV X.A = false ∧ arrB X V = true ∧ zV V.sun = true ∧ True ∧ A1 = (fun _ => 0) ∧ zV A1 = true ∧ zV X.D = false ∧ True ∧ True ∧ True ∧ A2 = A1 ∧ Flg 1 ∧ Flg 0 ∧ Flg 1 ∧ Flg 1 ∧ Flg 0 ∧ Flg 1 ∧ Flg 1 ∧ Flg 0 ∧ Flg 0 ∧ Flg 0) ∨
 (zV X.A = false ∧ arrB X V = true ∧ zV V.sun = true ∧ True ∧ A1 = (fun _ => 0) ∧ zV A1 = true ∧ zV X.D = true ∧ zV V.rate = false ∧ True ∧ True ∧ A2 = A1 ∧ Flg 1 ∧ Flg 0 ∧ Flg 1 ∧ Flg 1 ∧ Flg 0 ∧ Flg 1 ∧ Flg 1 ∧ Flg 1 ∧ Flg 0 ∧ Flg 0) ∨
 (zV X.A = false ∧ arrB X V = true ∧ zV V.sun = true ∧ True ∧ A1 = (fun _ => 0) ∧ zV A1 = true ∧ zV X.D = true ∧ zV V.rate = true ∧ True ∧ True ∧ A2 = A1 ∧ Flg 1 ∧ Flg 0 ∧ Flg 1 ∧ Flg 1 ∧ Flg 0 ∧ Flg 1 ∧ Flg 1 ∧ Flg 1 ∧ Flg 1 ∧ Flg 0) ∨
 (zV X.A = false ∧ arrB X V = true ∧ zV V.sun = false ∧ decide (7516192768 ≤ 8 * V.sun 2) = true ∧ A1 = (fun _ => 0) ∧ zV A1 = true ∧ zV X.D = false ∧ True ∧ True ∧ True ∧ A2 = A1 ∧ Flg 1 ∧ Flg 0 ∧ Flg 1 ∧ Flg 1 ∧ Flg 1 ∧ Flg 1 ∧ Flg 1 ∧ Flg 0 ∧ Flg 0 ∧ Flg 0) ∨
 (zV X.A = false ∧ arrB X V = true ∧ zV V.sun = false ∧ decide (7516192768 ≤ 8 * V.sun 2) = true ∧ A1 = (fun _ => 0) ∧ zV A1 = true ∧ zV X.D = true ∧ zV V.rate = false ∧ True ∧ True ∧ A2 = A1 ∧ Flg 1 ∧ Flg 0 ∧ Flg 1 ∧ Flg 1 ∧ Flg 1 ∧ Flg 1 ∧ Flg 1 ∧ Flg 1 ∧ Flg 0 ∧ Flg 0) ∨
 (zV X.A = false ∧ arrB X V = true ∧ zV V.sun = false ∧ decide (7516192768 ≤ 8 * V.sun 2) = true ∧ A1 = (fun _ => 0) ∧ zV A1 = true ∧ zV X.D = true ∧ zV V.rate = true ∧ decide (4 * V.sun 2 < 3221225472) = false ∧ True ∧ A2 = A1 ∧ Flg 1 ∧ Flg 0 ∧ Flg 1 ∧ Flg 1 ∧ Flg 1 ∧ Flg 1 ∧ Flg 1 ∧ Flg 1 ∧ Flg 1 ∧ Flg 1) ∨
 (zV X.A = false ∧ arrB X V = true ∧ zV V.sun = false ∧ decide (7516192768 ≤ 8 * V.sun 2) = false ∧ A1 = X.A ∧ zV A1 = false ∧ True ∧ True ∧ True ∧ True ∧ A2 = A1 ∧ Flg 0 ∧ Flg 0 ∧ Flg 1 ∧ Flg 1 ∧ Flg 1 ∧ Flg 0 ∧ Flg 0 ∧ Flg 0 ∧ Flg 0 ∧ Flg 0))) : Calls Tryz.prog 13 #[.agg (rssc X), .agg (sec V)] w fun e w' => e = .returned (.tuple #[.agg (rssc (stX X V A2 (vscaleF A2 4194304))), .agg (qfn (stC X V (vscaleF A2 4194304))), .int .i64 0]) ∧ Below w.heap.size w w' := by
 have RV := Lib.hid (fun w => rsval_any V w)
 rw [hk] at RV
 have RA := Lib.hid (fun w => rarr_any X V w)
 have RA1 := Lib.hid (fun w => rarr_any ⟨X.D, A1, X.P, X.g⟩ V w)
 rw [show arrB ⟨X.D, A1, X.P, X.g⟩ V = arrB X V from rfl] at RA1
 have BE := Lib.hid (fun w => rbehind_any V.sun w)
 have SC := Lib.hid (fun w => rvscale_any A2 4194304 w ⟨by omega, by omega⟩)
 have UN := Lib.hid (fun w => rvunit_any (acrX V.sun) w (fun i hi => by
  have h0 := hS 0 (by omega)
  have h1 := hS 1 (by omega)
  unfold acrX
  split
  ·exact ⟨by omega, by omega⟩
  ·split
   ·exact ⟨by omega, by omega⟩
   ·exact ⟨by omega, by omega⟩))
 have hv : #[Value.int .i64 (-V.sun 1), .int .i64 (V.sun 0), .int .i64 0] = vfn (acrX V.sun) := vfn_of (acrX V.sun)
 rw [← hv] at UN
 clear hv
 have m8 : IntKind.i64.wrap (8 * V.sun 2) = 8 * V.sun 2 := by have := hS 2 (by omega); rw [IntKind.wrap_i64]; omega
 have m4 : IntKind.i64.wrap (4 * V.sun 2) = 4 * V.sun 2 := by have := hS 2 (by omega); rw [IntKind.wrap_i64]; omega
 have mn1 : IntKind.i64.wrap (-V.sun 1) = -V.sun 1 := by have := hS 1 (by omega); rw [IntKind.wrap_i64]; omega
 have ST := Lib.hid (fun w => rstep_any ⟨X.D, A2, X.P, X.g⟩ V (vscaleF A2 4194304) w hk hD hT)
 rw [show stX ⟨X.D, A2, X.P, X.g⟩ V A2 (vscaleF A2 4194304) = stX X V A2 (vscaleF A2 4194304) from rfl, show stC ⟨X.D, A2, X.P, X.g⟩ V (vscaleF A2 4194304) = stC X V (vscaleF A2 4194304) from rfl] at ST
 clear hk hD hT hS
 generalize stX X V A2 (vscaleF A2 4194304) = N at *
 generalize stC X V (vscaleF A2 4194304) = C at *
 generalize vscaleF A2 4194304 = To at *
 generalize vscaleE A2 4194304 = Te at *
 generalize vunE (acrX V.sun) = Ue at *
 have E1 : ∀ w, (Op.equalIn 10000 27 (.agg (vfn V.sun)) (.agg (vfn fun _ => 0))).run Tryz.prog w = .ok (zV V.sun) w := fun w => by have := vec_eq0 V.sun w; rw [zero_vec] at this; exact this
 have E2 : ∀ w, (Op.equalIn 10000 27 (.agg (vfn A1)) (.agg (vfn fun _ => 0))).run Tryz.prog w = .ok (zV A1) w := fun w => by have := vec_eq0 A1 w; rw [zero_vec] at this; exact this
 have E3 : ∀ w, (Op.equalIn 10000 27 (.agg (vfn X.D)) (.agg (vfn fun _ => 0))).run Tryz.prog w = .ok (zV X.D) w := fun w => by have := vec_eq0 X.D w; rw [zero_vec] at this; exact this
 have E4 : ∀ w, (Op.equalIn 10000 27 (.agg (vfn V.rate)) (.agg (vfn fun _ => 0))).run Tryz.prog w = .ok (zV V.rate) w := fun w => by have := vec_eq0 V.rate w; rw [zero_vec] at this; exact this
 have E5 : ∀ w, (Op.equalIn 10000 27 (.agg (vfn X.A)) (.agg (vfn fun _ => 0))).run Tryz.prog w = .ok (zV X.A) w := fun w => by have := vec_eq0 X.A w; rw [zero_vec] at this; exact this
 rcases hc.out with h | h | h | h | h | h | h | h | h | h | h | h | h | h | h
 all_goals
  obtain ⟨hzA, ha, hs0, hge, hA1, hz, hd, hr, hlt, hb, hA2, m1, m2, g1, g2, g3, g4, g5, g6, g7, g8⟩ := h
  rw [hz] at E2
  try rw [hzA] at E5
  try rw [hs0] at E1
  try rw [hd] at E3
  try rw [hr] at E4
  try rw [ha] at RA RA1
  try rw [hb] at BE
  replace hA1 := Lib.hid hA1
  replace hA2 := Lib.hid hA2
  clear hc hz hs0 hd hr hzA ha hb
  go_enter Tryz.func13, Tryz.ntmps13
  go_upto_region 1 with (fail)
  simp only [rssc_zero, zero_spd]
  have y : blk ((((w.alloc (.cells (rssc X) 30)).alloc (.cells (sec V) 33)).alloc (.cells (rssc SSt.zero) 30)).alloc (.cells (qfn fun _ => 0) 28)) w.heap.size (rssc X) 30 := (((blk.new _ _ _).alloc _).alloc _).alloc _
  have v : blk ((((w.alloc (.cells (rssc X) 30)).alloc (.cells (sec V) 33)).alloc (.cells (rssc SSt.zero) 30)).alloc (.cells (qfn fun _ => 0) 28)) (w.heap.size + 1) (sec V) 33 := ((blk.new' (by simp)).alloc _).alloc _
  have r1 : blk ((((w.alloc (.cells (rssc X) 30)).alloc (.cells (sec V) 33)).alloc (.cells (rssc SSt.zero) 30)).alloc (.cells (qfn fun _ => 0) 28)) (w.heap.size + 2) (rssc SSt.zero) 30 := (blk.new' (by simp)).alloc _
  have r2 : blk ((((w.alloc (.cells (rssc X) 30)).alloc (.cells (sec V) 33)).alloc (.cells (rssc SSt.zero) 30)).alloc (.cells (qfn fun _ => 0) 28)) (w.heap.size + 3) (qfn fun _ => 0) 28 := blk.new' (by simp)
  have hB : Below w.heap.size w ((((w.alloc (.cells (rssc X) 30)).alloc (.cells (sec V) 33)).alloc (.cells (rssc SSt.zero) 30)).alloc (.cells (qfn fun _ => 0) 28)) := by go_grown
  generalize ((((w.alloc (.cells (rssc X) 30)).alloc (.cells (sec V) 33)).alloc (.cells (rssc SSt.zero) 30)).alloc (.cells (qfn fun _ => 0) 28)) = w0 at *
  go_upto_region 3 with (first | (refine wpList_load_rowG ?hw _ _ rfl _ rfl _ _ _ _ v Tryz.underlying33 rfl ?hi ?_; (case hw => (first | rfl | (simp [Region.wanted, yielded]; done))); (case hi => (first | kernel_rfl | (rw [sec_size]; kernel_rfl)))) | (go_at_call 24; with_reducible refine (RV.out _).mono ?_; rintro e wv ⟨rfl, hb⟩; replace hB := hB.trans (hb.mono hB.size); replace y := y.below hb y.lt; replace v := v.below hb v.lt; replace r1 := r1.below hb r1.lt; replace r2 := r2.below hb r2.lt; clear hb))
  clear RV
  have lt_y := y.lt
  have lt_v := v.lt
  have lt_r1 := r1.lt
  have lt_r2 := r2.lt
  have hW0 : w.heap.size ≤ wv.heap.size := by simpa using hB.size
  apply wp_region_Q 3 [0, 1, 3] [1] [_, (fun p => .pointer (some ⟨p 1, 0, none⟩)), (fun _ => undef)] (fun p L w' => wv.heap.size ≤ w'.heap.size ∧ Below w.heap.size w w' ∧ blk w' w.heap.size (rssc X) 30 ∧ blk w' (w.heap.size + 1) (sec V) 33 ∧ blk w' (w.heap.size + 2) (rssc SSt.zero) 30 ∧ blk w' (w.heap.size + 3) (qfn fun _ => 0) 28 ∧ (L 1 = true → wv.heap.size ≤ p 1 ∧ blk w' (p 1) (bif L 2 then (vfn (fun _ => 0)) else (vfn fun _ => 0)) 27)) _ [(0, 17), (1, 7)] [0, 1, 2]
  case hn => rfl
  case hB => kernel_rfl
  case hds => kernel_rfl
  case hA => (intro p; simp only [putsD, Act.put, sIT, sCZ, sCS, gCZ, gCS]; exact rfl)
  case h0 => exact fun p => ⟨Nat.le_refl _, hB, y, v, r1, r2, fun h => absurd h (by decide)⟩
  case hmore => exact fun p L w1 w2 ⟨hsz, hB, y, v, r1, r2, h_z⟩ hm => ⟨Nat.le_trans hsz hm.size, hB.trans (hm.mono (Nat.le_trans hW0 hsz)), y.below hm y.lt, v.below hm v.lt, r1.below hm r1.lt, r2.below hm r2.lt, fun hl => ⟨(h_z hl).1, (h_z hl).2.below hm (h_z hl).2.lt⟩⟩
  case hs =>
   intro more
   refine AllI.cons ?_ ?_
   ·refine stepI_val 0 rfl (fun p => rfl) ?_ (fun _ _ _ h => h)
    intros; (try simp only [vfn, qfn]); go_simp; exact ⟨rfl, rfl⟩
   refine AllI.cons ?_ ?_
   ·refine stepI_alloc 1 rfl (fun p => rfl) rfl (vfn fun _ => 0) 27 (fun p => rfl) ?_ ?_
    ·intro p w1
     go_simp
     first | done | rfl | rw [zero_vec]
    rintro p L w1 ⟨hsz, hB, y, v, r1, r2, h_z⟩ hk
    have L2 : L 2 = false := hk.2.2 2 rfl
    refine ⟨Nat.le_trans hsz (by simp), hB.alloc (Nat.le_trans (by first | exact hW0 | (have := hB.size; simp at this ⊢; omega)) hsz) _, y.alloc _, v.alloc _, r1.alloc _, r2.alloc _, fun _ => ⟨hsz, ?_⟩⟩
    rw [show upL L 1 2 = false from L2]
    exact blk.new _ _ _
   refine AllI.cons ?_ ?_
   ·refine stepI_store 2 rfl (fun p => rfl) (fun p => rfl) _ _ _ rfl (fun p => p 1) 0 (fun p => rfl) (fun p => (vfn (fun _ => 0))) (fun p => congrArg Value.agg zero_vec) (fun p => (vfn fun _ => 0)) (fun p => (vfn (fun _ => 0))) 27 (fun p => over_v _ _) (fun p => by first | (rw [vfn_size, vfn_size]; decide) | simp [vfn_size, vfn_size]) (fun p => by rw [vfn_size]; kernel_rfl) (fun p => vfn_one _) ?_ ?_
    ·rintro p L w1 ⟨hsz, hB, y, v, r1, r2, h_z⟩ hk
     have L2 : L 2 = false := hk.1
     have hh := (h_z (hk.2.1 1 rfl)).2
     rw [L2] at hh
     try simp only [cond_true, cond_false] at hh
     exact hh
    ·rintro p L w1 ⟨hsz, hB, y, v, r1, r2, h_z⟩ hk
     have L2 : L 2 = false := hk.1
     skip
     have hp := h_z (hk.2.1 1 rfl)
     refine ⟨(by simpa using hsz), Below.setRow hB (by first | exact Nat.le_trans hW0 hp.1 | exact ge_z | omega | (have := hB.size; simp at this ⊢; omega)) _, y.rowOther (by first | exact Nat.ne_of_lt (Nat.lt_of_lt_of_le lt_y hp.1) | omega) _, v.rowOther (by first | exact Nat.ne_of_lt (Nat.lt_of_lt_of_le lt_v hp.1) | omega) _, r1.rowOther (by first | exact Nat.ne_of_lt (Nat.lt_of_lt_of_le lt_r1 hp.1) | omega) _, r2.rowOther (by first | exact Nat.ne_of_lt (Nat.lt_of_lt_of_le lt_r2 hp.1) | omega) _, fun _ => ⟨hp.1, ?_⟩⟩
     rw [show upL L 2 2 = true from rfl]
     exact hp.2.row _
   exact AllI.nil
  case hV0 =>
   intro p q
   refine AllI.cons ?_ ?_
   ·skip
    iterate 3 (refine AllI.cons (by first | exact .inl rfl | (refine .inr ?_; simp only [gCZ, gCS]; done) | exact .inr rfl) ?_)
    exact AllI.nil
   exact AllI.nil
  case he =>
  clear hB y v r1 r2
  rintro p wvr ⟨hsz, hB, y, v, r1, r2, h_z⟩
  obtain ⟨le_z, z⟩ := h_z rfl
  clear h_z
  replace z : blk wvr (p 1) (vfn (fun _ => 0)) 27 := z
  have ne_y_z : w.heap.size ≠ p 1 := Nat.ne_of_lt (Nat.lt_of_lt_of_le lt_y le_z)
  have ne_v_z : (w.heap.size + 1) ≠ p 1 := Nat.ne_of_lt (Nat.lt_of_lt_of_le lt_v le_z)
  have ne_r1_z : (w.heap.size + 2) ≠ p 1 := Nat.ne_of_lt (Nat.lt_of_lt_of_le lt_r1 le_z)
  have ne_r2_z : (w.heap.size + 3) ≠ p 1 := Nat.ne_of_lt (Nat.lt_of_lt_of_le lt_r2 le_z)
  have ge_z : w.heap.size ≤ p 1 := Nat.le_trans hW0 le_z
  generalize p 1 = z_b at *
  clear lt_y lt_v lt_r1 lt_r2 hsz hW0
  go_upto_region 4 with (fail)
  have lt_y := y.lt
  have lt_v := v.lt
  have lt_r1 := r1.lt
  have lt_r2 := r2.lt
  have lt_z := z.lt
  have hW0 : w.heap.size ≤ wvr.heap.size := by simpa using hB.size
  apply wp_region_Q 23 [0, 1, 3, 7, 15, 31, 63, 127, 255, 511, 1023, 2047, 4095, 8191, 16383, 32767, 65535, 131071, 262143, 524287, 1048575, 2097151, 4194303] [] [_, _, _, _, _, _, _, _, _, _, _, _, _, _, _, _, _, _, _, _, _, _, _] (fun p L w' => wvr.heap.size ≤ w'.heap.size ∧ Below w.heap.size w w' ∧ blk w' w.heap.size (rssc X) 30 ∧ blk w' (w.heap.size + 1) (sec V) 33 ∧ blk w' (w.heap.size + 2) (rssc SSt.zero) 30 ∧ blk w' (w.heap.size + 3) (qfn fun _ => 0) 28 ∧ blk w' z_b (vfn (fun _ => 0)) 27) _ [(0, 18), (1, 19), (2, 20), (3, 21), (4, 22), (5, 23), (6, 24), (7, 25), (8, 26), (9, 27), (10, 28), (11, 29), (12, 30), (13, 31), (14, 32), (15, 33), (16, 34), (17, 35), (18, 36), (19, 37), (20, 38), (21, 39), (22, 40)] [0, 1, 2, 3, 4, 5, 6, 7, 8, 9, 10, 11, 12, 13, 14, 15, 16, 17, 18, 19, 20, 21, 22]
  case hn => rfl
  case hB => kernel_rfl
  case hds => kernel_rfl
  case hA => (intro p; simp only [putsD, Act.put, sIT, sCZ, sCS, gCZ, gCS]; exact rfl)
  case h0 => exact fun p => ⟨Nat.le_refl _, hB, y, v, r1, r2, z⟩
  case hmore => exact fun p L w1 w2 ⟨hsz, hB, y, v, r1, r2, z⟩ hm => ⟨Nat.le_trans hsz hm.size, hB.trans (hm.mono (Nat.le_trans hW0 hsz)), y.below hm y.lt, v.below hm v.lt, r1.below hm r1.lt, r2.below hm r2.lt, z.below hm z.lt⟩
  case hs =>
   intro more
   refine sVV ?_
   refine sWW ?_ ?_
   ·rintro p L w1 ⟨hsz, hB, y, v, r1, r2, z⟩ hk
    exact valR_part _ _ rfl _ 3 rfl _ _ y (vfn X.A) (rs_A X) _ Tryz.underlying27 rfl (by rw [vfn_size]; kernel_rfl) rfl
   refine sWW ?_ ?_
   ·rintro p L w1 ⟨hsz, hB, y, v, r1, r2, z⟩ hk
    first | exact valR_row _ _ rfl _ rfl _ _ z _ Tryz.underlying27 rfl (by first | kernel_rfl | (rw [vfn_size]; kernel_rfl)) rfl | (have hc := z.cellIs (vfn_get _ (show 0 < 3 by omega)); go_simp; exact ⟨rfl, rfl⟩)
   iterate 2 (refine sVV ?_)
   first
    | (have hh : Flg 0 := g1; refine AllI.cons (stepI_off _ rfl (fun p => rfl) (fun p => rfl) (fun _ _ _ h => h)) ?_)
    | (refine stepVg 5 rfl (fun p => (by first | rfl | (simp [Region.wanted, yielded]; done))) (fun _ _ _ h => h) ?_ ?_
       ·rintro p L w1 ⟨hsz, hB, y, v, r1, r2, z⟩ hk
        first | exact valR_row _ _ rfl _ rfl _ _ y _ Tryz.underlying30 rfl (by first | kernel_rfl | (rw [rssc_size]; kernel_rfl)) rfl | (have hc := y.cellIs (show _[0]? = some _ from rfl); go_simp; exact ⟨rfl, rfl⟩))
   first
    | (have hh : Flg 0 := g1; refine AllI.cons (stepI_off _ rfl (fun p => rfl) (fun p => rfl) (fun _ _ _ h => h)) ?_)
    | (refine stepVg 6 rfl (fun p => (by first | rfl | (simp [Region.wanted, yielded]; done))) (fun _ _ _ h => h) ?_ ?_
       ·rintro p L w1 ⟨hsz, hB, y, v, r1, r2, z⟩ hk
        first | exact valR_row _ _ rfl _ rfl _ _ v _ Tryz.underlying33 rfl (by first | kernel_rfl | (rw [sec_size]; kernel_rfl)) rfl | (have hc := v.cellIs (show _[0]? = some _ from rfl); go_simp; exact ⟨rfl, rfl⟩))
   first
    | (have hh : Flg 0 := g1; refine AllI.cons (stepI_off _ rfl (fun p => rfl) (fun p => rfl) (fun _ _ _ h => h)) ?_)
    | (refine stepD 7 rfl (fun p => (by first | rfl | (simp [Region.wanted, yielded]; done))) (fun _ _ _ h => h) more ?_ ?_
       ·rintro p L w1 ⟨hsz, hB, y, v, r1, r2, z⟩ hk
        go_simp
        refine (RA.out _).mono ?_
        rintro e w2 ⟨rfl, h2⟩
        first | exact ⟨rfl, h2⟩ | (subst h2; exact ⟨rfl, Below.refl _ _⟩))
   first
    | (have hh : Flg 0 := g1; refine AllI.cons (stepI_off _ rfl (fun p => rfl) (fun p => rfl) (fun _ _ _ h => h)) ?_)
    | (refine stepVg 8 rfl (fun p => (by first | rfl | (simp [Region.wanted, yielded]; done))) (fun _ _ _ h => h) ?_ ?_
       ·intros; go_simp; exact ⟨rfl, rfl⟩)
   first
    | (have hh : Flg 0 := g1; refine AllI.cons (stepI_off _ rfl (fun p => rfl) (fun p => rfl) (fun _ _ _ h => h)) ?_)
    | (refine stepVg 9 rfl (fun p => (by first | rfl | (simp [Region.wanted, yielded]; done))) (fun _ _ _ h => h) ?_ ?_
       ·intros; go_simp; exact ⟨rfl, rfl⟩)
   first
    | (have hh : Flg 0 := g2; refine AllI.cons (stepI_off _ rfl (fun p => rfl) (fun p => rfl) (fun _ _ _ h => h)) ?_)
    | (refine stepVg 10 rfl (fun p => (by first | rfl | (simp [Region.wanted, yielded]; done))) (fun _ _ _ h => h) ?_ ?_
       ·intros; go_simp; exact ⟨rfl, rfl⟩)
   first
    | (have hh : Flg 0 := g2; refine AllI.cons (stepI_off _ rfl (fun p => rfl) (fun p => rfl) (fun _ _ _ h => h)) ?_)
    | (refine stepVg 11 rfl (fun p => (by first | rfl | (simp [Region.wanted, yielded]; done))) (fun _ _ _ h => h) ?_ ?_
       ·rintro p L w1 ⟨hsz, hB, y, v, r1, r2, z⟩ hk
        exact valR_part _ _ rfl _ 8 rfl _ _ v (vfn V.sun) (se_s V) _ Tryz.underlying27 rfl (by rw [vfn_size]; kernel_rfl) rfl)
   first
    | (have hh : Flg 0 := g2; refine AllI.cons (stepI_off _ rfl (fun p => rfl) (fun p => rfl) (fun _ _ _ h => h)) ?_)
    | (refine stepVg 12 rfl (fun p => (by first | rfl | (simp [Region.wanted, yielded]; done))) (fun _ _ _ h => h) ?_ ?_
       ·rintro p L w1 ⟨hsz, hB, y, v, r1, r2, z⟩ hk
        first | exact valR_row _ _ rfl _ rfl _ _ z _ Tryz.underlying27 rfl (by first | kernel_rfl | (rw [vfn_size]; kernel_rfl)) rfl | (have hc := z.cellIs (vfn_get _ (show 0 < 3 by omega)); go_simp; exact ⟨rfl, rfl⟩))
   first
    | (have hh : Flg 0 := g2; refine AllI.cons (stepI_off _ rfl (fun p => rfl) (fun p => rfl) (fun _ _ _ h => h)) ?_)
    | (refine stepVg 13 rfl (fun p => (by first | rfl | (simp [Region.wanted, yielded]; done))) (fun _ _ _ h => h) ?_ ?_
       ·intros; go_simp; exact ⟨rfl, rfl⟩)
   first
    | (have hh : Flg 0 := g1; refine AllI.cons (stepI_off _ rfl (fun p => rfl) (fun p => rfl) (fun _ _ _ h => h)) ?_)
    | (refine stepVg 14 rfl (fun p => (by first | rfl | (simp [Region.wanted, yielded]; done))) (fun _ _ _ h => h) ?_ ?_
       ·intros; go_simp; exact ⟨rfl, rfl⟩)
   first
    | (have hh : Flg 0 := g1; refine AllI.cons (stepI_off _ rfl (fun p => rfl) (fun p => rfl) (fun _ _ _ h => h)) ?_)
    | (refine stepVg 15 rfl (fun p => (by first | rfl | (simp [Region.wanted, yielded]; done))) (fun _ _ _ h => h) ?_ ?_
       ·intros; go_simp; exact ⟨rfl, rfl⟩)
   first
    | (have hh : Flg 0 := g3; refine AllI.cons (stepI_off _ rfl (fun p => rfl) (fun p => rfl) (fun _ _ _ h => h)) ?_)
    | (refine stepVg 16 rfl (fun p => (by first | rfl | (simp [Region.wanted, yielded]; done))) (fun _ _ _ h => h) ?_ ?_
       ·intros; go_simp; exact ⟨rfl, rfl⟩)
   first
    | (have hh : Flg 0 := g3; refine AllI.cons (stepI_off _ rfl (fun p => rfl) (fun p => rfl) (fun _ _ _ h => h)) ?_)
    | (refine stepVg 17 rfl (fun p => (by first | rfl | (simp [Region.wanted, yielded]; done))) (fun _ _ _ h => h) ?_ ?_
       ·intros; go_simp; exact ⟨rfl, rfl⟩)
   first
    | (have hh : Flg 0 := g3; refine AllI.cons (stepI_off _ rfl (fun p => rfl) (fun p => rfl) (fun _ _ _ h => h)) ?_)
    | (refine stepVg 18 rfl (fun p => (by first | rfl | (simp [Region.wanted, yielded]; done))) (fun _ _ _ h => h) ?_ ?_
       ·rintro p L w1 ⟨hsz, hB, y, v, r1, r2, z⟩ hk
        have hc : w1.cell? ⟨(w.heap.size + 1), 10, none⟩ = some (.int .i64 (V.sun 2)) := v.cellIs rfl
        go_simp
        exact ⟨rfl, rfl⟩)
   first
    | (have hh : Flg 0 := g3; refine AllI.cons (stepI_off _ rfl (fun p => rfl) (fun p => rfl) (fun _ _ _ h => h)) ?_)
    | (refine stepVg 19 rfl (fun p => (by first | rfl | (simp [Region.wanted, yielded]; done))) (fun _ _ _ h => h) ?_ ?_
       ·intros; go_simp; exact ⟨rfl, rfl⟩)
   first
    | (have hh : Flg 0 := g3; refine AllI.cons (stepI_off _ rfl (fun p => rfl) (fun p => rfl) (fun _ _ _ h => h)) ?_)
    | (refine stepVg 20 rfl (fun p => (by first | rfl | (simp [Region.wanted, yielded]; done))) (fun _ _ _ h => h) ?_ ?_
       ·intros; go_simp; exact ⟨rfl, rfl⟩)
   first
    | (have hh : Flg 0 := g1; refine AllI.cons (stepI_off _ rfl (fun p => rfl) (fun p => rfl) (fun _ _ _ h => h)) ?_)
    | (refine stepVg 21 rfl (fun p => (by first | rfl | (simp [Region.wanted, yielded]; done))) (fun _ _ _ h => h) ?_ ?_
       ·intros; go_simp; exact ⟨rfl, rfl⟩)
   refine sVV ?_
   exact AllI.nil
  case hV0 => exact fun p q => AllI.nil
  case he =>
  clear hB y v r1 r2 z
  rintro p wvrr ⟨hsz, hB, y, v, r1, r2, z⟩
  clear lt_y lt_v lt_r1 lt_r2 lt_z hsz hW0
  first
   | (have hh : Flg 1 := m1
      clear hh
      go_upto_region 5 with (fail)
      have lt_y := y.lt
      have lt_v := v.lt
      have lt_r1 := r1.lt
      have lt_r2 := r2.lt
      have lt_z := z.lt
      have hW0 : w.heap.size ≤ wvrr.heap.size := by simpa using hB.size
      apply wp_region_Q 3 [0, 1, 3] [] [_, _, (fun _ => undef)] (fun p L w' => wvrr.heap.size ≤ w'.heap.size ∧ Below w.heap.size w w' ∧ blk w' w.heap.size (bif L 2 then (rssc ⟨X.D, fun _ => 0, X.P, X.g⟩) else (rssc X)) 30 ∧ blk w' (w.heap.size + 1) (sec V) 33 ∧ blk w' (w.heap.size + 2) (rssc SSt.zero) 30 ∧ blk w' (w.heap.size + 3) (qfn fun _ => 0) 28 ∧ blk w' z_b (vfn (fun _ => 0)) 27) _ [(0, 41), (1, 42)] [0, 1, 2]
      case hn => rfl
      case hB => kernel_rfl
      case hds => kernel_rfl
      case hA => (intro p; simp only [putsD, Act.put, sIT, sCZ, sCS, gCZ, gCS]; exact rfl)
      case h0 => exact fun p => ⟨Nat.le_refl _, hB, y, v, r1, r2, z⟩
      case hmore => exact fun p L w1 w2 ⟨hsz, hB, y, v, r1, r2, z⟩ hm => ⟨Nat.le_trans hsz hm.size, hB.trans (hm.mono (Nat.le_trans hW0 hsz)), y.below hm y.lt, v.below hm v.lt, r1.below hm r1.lt, r2.below hm r2.lt, z.below hm z.lt⟩
      case hs =>
       intro more
       refine sWW ?_ ?_
       ·rintro p L w1 ⟨hsz, hB, y, v, r1, r2, z⟩ hk
        have L2 : L 2 = false := hk.2.2 2 rfl
        first | exact valR_row _ _ rfl _ rfl _ _ z _ Tryz.underlying27 rfl (by first | kernel_rfl | (rw [vfn_size]; kernel_rfl)) rfl | (have hc := z.cellIs (vfn_get _ (show 0 < 3 by omega)); go_simp; exact ⟨rfl, rfl⟩)
       refine sVV ?_
       refine AllI.cons ?_ ?_
       ·refine stepI_store 2 rfl (fun p => rfl) (fun p => rfl) _ _ _ rfl (fun _ => w.heap.size) 3 (fun p => rfl) (fun p => (vfn (fun _ => 0))) (fun p => rfl) (fun p => (rssc X)) (fun p => (rssc ⟨X.D, fun _ => 0, X.P, X.g⟩)) 30 (fun p => rsover_A _ _) (fun p => by first | (rw [vfn_size, rssc_size]; decide) | simp [vfn_size, rssc_size]) (fun p => by rw [vfn_size]; kernel_rfl) (fun p => vfn_one _) ?_ ?_
        ·rintro p L w1 ⟨hsz, hB, y, v, r1, r2, z⟩ hk
         have L2 : L 2 = false := hk.1
         rw [L2] at y
         try simp only [cond_true, cond_false] at y
         exact y
        ·rintro p L w1 ⟨hsz, hB, y, v, r1, r2, z⟩ hk
         have L2 : L 2 = false := hk.1
         skip
         refine ⟨(by simpa using hsz), Below.setRow hB (by first | exact Nat.le_trans hW0 hp.1 | exact ge_y | omega | (have := hB.size; simp at this ⊢; omega)) _, ?_, v.rowOther (by first | exact ne_v_y | exact Ne.symm ne_y_v | omega) _, r1.rowOther (by first | exact ne_r1_y | exact Ne.symm ne_y_r1 | omega) _, r2.rowOther (by first | exact ne_r2_y | exact Ne.symm ne_y_r2 | omega) _, z.rowOther (Ne.symm ne_y_z) _⟩
         rw [show upL L 2 2 = true from rfl]
         exact y.row _
       exact AllI.nil
      case hV0 => exact fun p q => AllI.nil
      case' he =>
      clear hB y v r1 r2 z
      rintro p wvrr ⟨hsz, hB, y, v, r1, r2, z⟩
      replace y : blk wvrr w.heap.size (rssc ⟨X.D, fun _ => 0, X.P, X.g⟩) 30 := y
      clear lt_y lt_v lt_r1 lt_r2 lt_z hsz hW0
      go_upto_region 6 with (fail))
   | (go_upto_region 6 with (fail))
  replace y : blk wvrr w.heap.size (rssc ⟨X.D, A1, X.P, X.g⟩) 30 := by rw [hA1.out]; exact y
  clear hA1 RA
  have lt_y := y.lt
  have lt_v := v.lt
  have lt_r1 := r1.lt
  have lt_r2 := r2.lt
  have lt_z := z.lt
  have hW0 : w.heap.size ≤ wvrr.heap.size := by simpa using hB.size
  apply wp_region_Q 34 [0, 1, 3, 7, 15, 31, 63, 127, 255, 511, 1023, 2047, 4095, 8191, 16383, 32767, 65535, 131071, 262143, 524287, 1048575, 2097151, 4194303, 8388607, 16777215, 33554431, 67108863, 134217727, 268435455, 536870911, 1073741823, 2147483647, 4294967295, 8589934591] [] [_, _, _, _, _, _, _, _, _, _, _, _, _, _, _, _, _, _, _, _, _, _, _, _, _, _, _, _, _, _, _, _, _, _] (fun p L w' => wvrr.heap.size ≤ w'.heap.size ∧ Below w.heap.size w w' ∧ blk w' w.heap.size (rssc ⟨X.D, A1, X.P, X.g⟩) 30 ∧ blk w' (w.heap.size + 1) (sec V) 33 ∧ blk w' (w.heap.size + 2) (rssc SSt.zero) 30 ∧ blk w' (w.heap.size + 3) (qfn fun _ => 0) 28 ∧ blk w' z_b (vfn (fun _ => 0)) 27) _ [(0, 43), (1, 44), (2, 45), (3, 46), (4, 47), (5, 48), (6, 49), (7, 50), (8, 51), (9, 52), (10, 53), (11, 54), (12, 55), (13, 56), (14, 57), (15, 58), (16, 59), (17, 60), (18, 61), (19, 62), (20, 63), (21, 64), (22, 65), (23, 66), (24, 67), (25, 68), (26, 69), (27, 70), (28, 71), (29, 72), (30, 73), (31, 74), (32, 75), (33, 76)] [0, 1, 2, 3, 4, 5, 6, 7, 8, 9, 10, 11, 12, 13, 14, 15, 16, 17, 18, 19, 20, 21, 22, 23, 24, 25, 26, 27, 28, 29, 30, 31, 32, 33]
  case hn => rfl
  case hB => kernel_rfl
  case hds => kernel_rfl
  case hA => (intro p; simp only [putsD, Act.put, sIT, sCZ, sCS, gCZ, gCS]; exact rfl)
  case h0 => exact fun p => ⟨Nat.le_refl _, hB, y, v, r1, r2, z⟩
  case hmore => exact fun p L w1 w2 ⟨hsz, hB, y, v, r1, r2, z⟩ hm => ⟨Nat.le_trans hsz hm.size, hB.trans (hm.mono (Nat.le_trans hW0 hsz)), y.below hm y.lt, v.below hm v.lt, r1.below hm r1.lt, r2.below hm r2.lt, z.below hm z.lt⟩
  case hs =>
   intro more
   refine sVV ?_
   refine sWW ?_ ?_
   ·rintro p L w1 ⟨hsz, hB, y, v, r1, r2, z⟩ hk
    exact valR_part _ _ rfl _ 3 rfl _ _ y (vfn A1) (rs_A ⟨X.D, A1, X.P, X.g⟩) _ Tryz.underlying27 rfl (by rw [vfn_size]; kernel_rfl) rfl
   refine sWW ?_ ?_
   ·rintro p L w1 ⟨hsz, hB, y, v, r1, r2, z⟩ hk
    first | exact valR_row _ _ rfl _ rfl _ _ z _ Tryz.underlying27 rfl (by first | kernel_rfl | (rw [vfn_size]; kernel_rfl)) rfl | (have hc := z.cellIs (vfn_get _ (show 0 < 3 by omega)); go_simp; exact ⟨rfl, rfl⟩)
   iterate 2 (refine sVV ?_)
   first
    | (have hh : Flg 0 := g4; refine AllI.cons (stepI_off _ rfl (fun p => rfl) (fun p => rfl) (fun _ _ _ h => h)) ?_)
    | (refine stepVg 5 rfl (fun p => (by first | rfl | (simp [Region.wanted, yielded]; done))) (fun _ _ _ h => h) ?_ ?_
       ·rintro p L w1 ⟨hsz, hB, y, v, r1, r2, z⟩ hk
        first | exact valR_row _ _ rfl _ rfl _ _ y _ Tryz.underlying30 rfl (by first | kernel_rfl | (rw [rssc_size]; kernel_rfl)) rfl | (have hc := y.cellIs (show _[0]? = some _ from rfl); go_simp; exact ⟨rfl, rfl⟩))
   first
    | (have hh : Flg 0 := g4; refine AllI.cons (stepI_off _ rfl (fun p => rfl) (fun p => rfl) (fun _ _ _ h => h)) ?_)
    | (refine stepVg 6 rfl (fun p => (by first | rfl | (simp [Region.wanted, yielded]; done))) (fun _ _ _ h => h) ?_ ?_
       ·rintro p L w1 ⟨hsz, hB, y, v, r1, r2, z⟩ hk
        first | exact valR_row _ _ rfl _ rfl _ _ v _ Tryz.underlying33 rfl (by first | kernel_rfl | (rw [sec_size]; kernel_rfl)) rfl | (have hc := v.cellIs (show _[0]? = some _ from rfl); go_simp; exact ⟨rfl, rfl⟩))
   first
    | (have hh : Flg 0 := g4; refine AllI.cons (stepI_off _ rfl (fun p => rfl) (fun p => rfl) (fun _ _ _ h => h)) ?_)
    | (refine stepD 7 rfl (fun p => (by first | rfl | (simp [Region.wanted, yielded]; done))) (fun _ _ _ h => h) more ?_ ?_
       ·rintro p L w1 ⟨hsz, hB, y, v, r1, r2, z⟩ hk
        go_simp
        refine (RA1.out _).mono ?_
        rintro e w2 ⟨rfl, h2⟩
        first | exact ⟨rfl, h2⟩ | (subst h2; exact ⟨rfl, Below.refl _ _⟩))
   iterate 2 (refine sVV ?_)
   first
    | (have hh : Flg 0 := g5; refine AllI.cons (stepI_off _ rfl (fun p => rfl) (fun p => rfl) (fun _ _ _ h => h)) ?_)
    | (refine stepVg 10 rfl (fun p => (by first | rfl | (simp [Region.wanted, yielded]; done))) (fun _ _ _ h => h) ?_ ?_
       ·intros; go_simp; exact ⟨rfl, rfl⟩)
   first
    | (have hh : Flg 0 := g5; refine AllI.cons (stepI_off _ rfl (fun p => rfl) (fun p => rfl) (fun _ _ _ h => h)) ?_)
    | (refine stepVg 11 rfl (fun p => (by first | rfl | (simp [Region.wanted, yielded]; done))) (fun _ _ _ h => h) ?_ ?_
       ·rintro p L w1 ⟨hsz, hB, y, v, r1, r2, z⟩ hk
        exact valR_part _ _ rfl _ 0 rfl _ _ y (vfn X.D) (rs_D ⟨X.D, A1, X.P, X.g⟩) _ Tryz.underlying27 rfl (by rw [vfn_size]; kernel_rfl) rfl)
   first
    | (have hh : Flg 0 := g5; refine AllI.cons (stepI_off _ rfl (fun p => rfl) (fun p => rfl) (fun _ _ _ h => h)) ?_)
    | (refine stepVg 12 rfl (fun p => (by first | rfl | (simp [Region.wanted, yielded]; done))) (fun _ _ _ h => h) ?_ ?_
       ·rintro p L w1 ⟨hsz, hB, y, v, r1, r2, z⟩ hk
        first | exact valR_row _ _ rfl _ rfl _ _ z _ Tryz.underlying27 rfl (by first | kernel_rfl | (rw [vfn_size]; kernel_rfl)) rfl | (have hc := z.cellIs (vfn_get _ (show 0 < 3 by omega)); go_simp; exact ⟨rfl, rfl⟩))
   first
    | (have hh : Flg 0 := g5; refine AllI.cons (stepI_off _ rfl (fun p => rfl) (fun p => rfl) (fun _ _ _ h => h)) ?_)
    | (refine stepVg 13 rfl (fun p => (by first | rfl | (simp [Region.wanted, yielded]; done))) (fun _ _ _ h => h) ?_ ?_
       ·intros; go_simp; exact ⟨rfl, rfl⟩)
   iterate 2 (refine sVV ?_)
   first
    | (have hh : Flg 0 := g6; refine AllI.cons (stepI_off _ rfl (fun p => rfl) (fun p => rfl) (fun _ _ _ h => h)) ?_)
    | (refine stepVg 16 rfl (fun p => (by first | rfl | (simp [Region.wanted, yielded]; done))) (fun _ _ _ h => h) ?_ ?_
       ·intros; go_simp; exact ⟨rfl, rfl⟩)
   first
    | (have hh : Flg 0 := g6; refine AllI.cons (stepI_off _ rfl (fun p => rfl) (fun p => rfl) (fun _ _ _ h => h)) ?_)
    | (refine stepVg 17 rfl (fun p => (by first | rfl | (simp [Region.wanted, yielded]; done))) (fun _ _ _ h => h) ?_ ?_
       ·rintro p L w1 ⟨hsz, hB, y, v, r1, r2, z⟩ hk
        exact valR_part _ _ rfl _ 0 rfl _ _ v (vfn V.rate) (se_r V) _ Tryz.underlying27 rfl (by rw [vfn_size]; kernel_rfl) rfl)
   first
    | (have hh : Flg 0 := g6; refine AllI.cons (stepI_off _ rfl (fun p => rfl) (fun p => rfl) (fun _ _ _ h => h)) ?_)
    | (refine stepVg 18 rfl (fun p => (by first | rfl | (simp [Region.wanted, yielded]; done))) (fun _ _ _ h => h) ?_ ?_
       ·rintro p L w1 ⟨hsz, hB, y, v, r1, r2, z⟩ hk
        first | exact valR_row _ _ rfl _ rfl _ _ z _ Tryz.underlying27 rfl (by first | kernel_rfl | (rw [vfn_size]; kernel_rfl)) rfl | (have hc := z.cellIs (vfn_get _ (show 0 < 3 by omega)); go_simp; exact ⟨rfl, rfl⟩))
   first
    | (have hh : Flg 0 := g6; refine AllI.cons (stepI_off _ rfl (fun p => rfl) (fun p => rfl) (fun _ _ _ h => h)) ?_)
    | (refine stepVg 19 rfl (fun p => (by first | rfl | (simp [Region.wanted, yielded]; done))) (fun _ _ _ h => h) ?_ ?_
       ·intros; go_simp; exact ⟨rfl, rfl⟩)
   iterate 2 (refine sVV ?_)
   first
    | (have hh : Flg 0 := g7; refine AllI.cons (stepI_off _ rfl (fun p => rfl) (fun p => rfl) (fun _ _ _ h => h)) ?_)
    | (refine stepVg 22 rfl (fun p => (by first | rfl | (simp [Region.wanted, yielded]; done))) (fun _ _ _ h => h) ?_ ?_
       ·intros; go_simp; exact ⟨rfl, rfl⟩)
   first
    | (have hh : Flg 0 := g7; refine AllI.cons (stepI_off _ rfl (fun p => rfl) (fun p => rfl) (fun _ _ _ h => h)) ?_)
    | (refine stepVg 23 rfl (fun p => (by first | rfl | (simp [Region.wanted, yielded]; done))) (fun _ _ _ h => h) ?_ ?_
       ·rintro p L w1 ⟨hsz, hB, y, v, r1, r2, z⟩ hk
        exact valR_part _ _ rfl _ 8 rfl _ _ v (vfn V.sun) (se_s V) _ Tryz.underlying27 rfl (by rw [vfn_size]; kernel_rfl) rfl)
   first
    | (have hh : Flg 0 := g7; refine AllI.cons (stepI_off _ rfl (fun p => rfl) (fun p => rfl) (fun _ _ _ h => h)) ?_)
    | (refine stepVg 24 rfl (fun p => (by first | rfl | (simp [Region.wanted, yielded]; done))) (fun _ _ _ h => h) ?_ ?_
       ·rintro p L w1 ⟨hsz, hB, y, v, r1, r2, z⟩ hk
        first | exact valR_row _ _ rfl _ rfl _ _ z _ Tryz.underlying27 rfl (by first | kernel_rfl | (rw [vfn_size]; kernel_rfl)) rfl | (have hc := z.cellIs (vfn_get _ (show 0 < 3 by omega)); go_simp; exact ⟨rfl, rfl⟩))
   first
    | (have hh : Flg 0 := g7; refine AllI.cons (stepI_off _ rfl (fun p => rfl) (fun p => rfl) (fun _ _ _ h => h)) ?_)
    | (refine stepVg 25 rfl (fun p => (by first | rfl | (simp [Region.wanted, yielded]; done))) (fun _ _ _ h => h) ?_ ?_
       ·intros; go_simp; exact ⟨rfl, rfl⟩)
   iterate 2 (refine sVV ?_)
   first
    | (have hh : Flg 0 := g8; refine AllI.cons (stepI_off _ rfl (fun p => rfl) (fun p => rfl) (fun _ _ _ h => h)) ?_)
    | (refine stepVg 28 rfl (fun p => (by first | rfl | (simp [Region.wanted, yielded]; done))) (fun _ _ _ h => h) ?_ ?_
       ·intros; go_simp; exact ⟨rfl, rfl⟩)
   first
    | (have hh : Flg 0 := g8; refine AllI.cons (stepI_off _ rfl (fun p => rfl) (fun p => rfl) (fun _ _ _ h => h)) ?_)
    | (refine stepVg 29 rfl (fun p => (by first | rfl | (simp [Region.wanted, yielded]; done))) (fun _ _ _ h => h) ?_ ?_
       ·intros; go_simp; exact ⟨rfl, rfl⟩)
   first
    | (have hh : Flg 0 := g8; refine AllI.cons (stepI_off _ rfl (fun p => rfl) (fun p => rfl) (fun _ _ _ h => h)) ?_)
    | (refine stepVg 30 rfl (fun p => (by first | rfl | (simp [Region.wanted, yielded]; done))) (fun _ _ _ h => h) ?_ ?_
       ·rintro p L w1 ⟨hsz, hB, y, v, r1, r2, z⟩ hk
        have hc : w1.cell? ⟨(w.heap.size + 1), 10, none⟩ = some (.int .i64 (V.sun 2)) := v.cellIs rfl
        go_simp
        exact ⟨rfl, rfl⟩)
   first
    | (have hh : Flg 0 := g8; refine AllI.cons (stepI_off _ rfl (fun p => rfl) (fun p => rfl) (fun _ _ _ h => h)) ?_)
    | (refine stepVg 31 rfl (fun p => (by first | rfl | (simp [Region.wanted, yielded]; done))) (fun _ _ _ h => h) ?_ ?_
       ·intros; go_simp; exact ⟨rfl, rfl⟩)
   first
    | (have hh : Flg 0 := g8; refine AllI.cons (stepI_off _ rfl (fun p => rfl) (fun p => rfl) (fun _ _ _ h => h)) ?_)
    | (refine stepVg 32 rfl (fun p => (by first | rfl | (simp [Region.wanted, yielded]; done))) (fun _ _ _ h => h) ?_ ?_
       ·intros; go_simp; exact ⟨rfl, rfl⟩)
   refine sVV ?_
   exact AllI.nil
  case hV0 => exact fun p q => AllI.nil
  case he =>
  clear hB y v r1 r2 z
  rintro p wvrrr ⟨hsz, hB, y, v, r1, r2, z⟩
  clear lt_y lt_v lt_r1 lt_r2 lt_z hsz hW0
  first
   | (have hh : Flg 1 := m2
      clear hh
      go_upto_region 7 with (fail)
      have lt_y := y.lt
      have lt_v := v.lt
      have lt_r1 := r1.lt
      have lt_r2 := r2.lt
      have lt_z := z.lt
      have hW0 : w.heap.size ≤ wvrrr.heap.size := by simpa using hB.size
      apply wp_region_Q 3 [0, 1, 3] [] [_, _, _] (fun p L w' => wvrrr.heap.size ≤ w'.heap.size ∧ Below w.heap.size w w' ∧ blk w' w.heap.size (rssc ⟨X.D, A1, X.P, X.g⟩) 30 ∧ blk w' (w.heap.size + 1) (sec V) 33 ∧ blk w' (w.heap.size + 2) (rssc SSt.zero) 30 ∧ blk w' (w.heap.size + 3) (qfn fun _ => 0) 28 ∧ blk w' z_b (vfn (fun _ => 0)) 27) _ [(0, 77), (1, 78), (2, 79)] [0, 1, 2]
      case hn => rfl
      case hB => kernel_rfl
      case hds => kernel_rfl
      case hA => (intro p; simp only [putsD, Act.put, sIT, sCZ, sCS, gCZ, gCS]; exact rfl)
      case h0 => exact fun p => ⟨Nat.le_refl _, hB, y, v, r1, r2, z⟩
      case hmore => exact fun p L w1 w2 ⟨hsz, hB, y, v, r1, r2, z⟩ hm => ⟨Nat.le_trans hsz hm.size, hB.trans (hm.mono (Nat.le_trans hW0 hsz)), y.below hm y.lt, v.below hm v.lt, r1.below hm r1.lt, r2.below hm r2.lt, z.below hm z.lt⟩
      case hs =>
       intro more
       refine sVV ?_
       refine sWW ?_ ?_
       ·rintro p L w1 ⟨hsz, hB, y, v, r1, r2, z⟩ hk
        exact valR_part _ _ rfl _ 8 rfl _ _ v (vfn V.sun) (se_s V) _ Tryz.underlying27 rfl (by rw [vfn_size]; kernel_rfl) rfl
       refine stepD 2 rfl (fun p => rfl) (fun _ _ _ h => h) more ?_ ?_
       ·rintro p L w1 ⟨hsz, hB, y, v, r1, r2, z⟩ hk
        go_simp
        refine (BE.out _).mono ?_
        rintro e w2 ⟨rfl, h2⟩
        first | exact ⟨rfl, h2⟩ | (subst h2; exact ⟨rfl, Below.refl _ _⟩)
       exact AllI.nil
      case hV0 => exact fun p q => AllI.nil
      case' he =>
      clear hB y v r1 r2 z
      rintro p wvrrrr ⟨hsz, hB, y, v, r1, r2, z⟩
      clear lt_y lt_v lt_r1 lt_r2 lt_z hsz hW0
      go_upto_region 8 with (fail)
      have lt_y := y.lt
      have lt_v := v.lt
      have lt_r1 := r1.lt
      have lt_r2 := r2.lt
      have lt_z := z.lt
      have hW0 : w.heap.size ≤ wvrrrr.heap.size := by simpa using hB.size
      apply wp_region_Q 3 [0, 1, 3] [] [_, _, (fun _ => undef)] (fun p L w' => wvrrrr.heap.size ≤ w'.heap.size ∧ Below w.heap.size w w' ∧ blk w' w.heap.size (bif L 2 then (rssc ⟨X.D, of3 1073741824 0 0, X.P, X.g⟩) else (rssc ⟨X.D, A1, X.P, X.g⟩)) 30 ∧ blk w' (w.heap.size + 1) (sec V) 33 ∧ blk w' (w.heap.size + 2) (rssc SSt.zero) 30 ∧ blk w' (w.heap.size + 3) (qfn fun _ => 0) 28 ∧ blk w' z_b (vfn (fun _ => 0)) 27) _ [(0, 80), (1, 81)] [0, 1, 2]
      case hn => rfl
      case hB => kernel_rfl
      case hds => kernel_rfl
      case hA => (intro p; simp only [putsD, Act.put, sIT, sCZ, sCS, gCZ, gCS]; exact rfl)
      case h0 => exact fun p => ⟨Nat.le_refl _, hB, y, v, r1, r2, z⟩
      case hmore => exact fun p L w1 w2 ⟨hsz, hB, y, v, r1, r2, z⟩ hm => ⟨Nat.le_trans hsz hm.size, hB.trans (hm.mono (Nat.le_trans hW0 hsz)), y.below hm y.lt, v.below hm v.lt, r1.below hm r1.lt, r2.below hm r2.lt, z.below hm z.lt⟩
      case hs =>
       intro more
       refine AllI.cons ?_ ?_
       ·refine stepI_val 0 rfl (fun p => rfl) ?_ (fun _ _ _ h => h)
        intros; (try simp only [vfn, qfn]); go_simp; exact ⟨rfl, rfl⟩
       refine sVV ?_
       refine AllI.cons ?_ ?_
       ·refine stepI_store 2 rfl (fun p => rfl) (fun p => rfl) _ _ _ rfl (fun _ => w.heap.size) 3 (fun p => rfl) (fun p => (vfn (of3 1073741824 0 0))) (fun p => congrArg Value.agg (of3_cells _ _ _)) (fun p => (rssc ⟨X.D, A1, X.P, X.g⟩)) (fun p => (rssc ⟨X.D, of3 1073741824 0 0, X.P, X.g⟩)) 30 (fun p => rsover_A _ _) (fun p => by first | (rw [vfn_size, rssc_size]; decide) | simp [vfn_size, rssc_size]) (fun p => by rw [vfn_size]; kernel_rfl) (fun p => vfn_one _) ?_ ?_
        ·rintro p L w1 ⟨hsz, hB, y, v, r1, r2, z⟩ hk
         have L2 : L 2 = false := hk.1
         rw [L2] at y
         try simp only [cond_true, cond_false] at y
         exact y
        ·rintro p L w1 ⟨hsz, hB, y, v, r1, r2, z⟩ hk
         have L2 : L 2 = false := hk.1
         skip
         refine ⟨(by simpa using hsz), Below.setRow hB (by first | exact Nat.le_trans hW0 hp.1 | exact ge_y | omega | (have := hB.size; simp at this ⊢; omega)) _, ?_, v.rowOther (by first | exact ne_v_y | exact Ne.symm ne_y_v | omega) _, r1.rowOther (by first | exact ne_r1_y | exact Ne.symm ne_y_r1 | omega) _, r2.rowOther (by first | exact ne_r2_y | exact Ne.symm ne_y_r2 | omega) _, z.rowOther (Ne.symm ne_y_z) _⟩
         rw [show upL L 2 2 = true from rfl]
         exact y.row _
       exact AllI.nil
      case hV0 => exact fun p q => AllI.nil
      case' he =>
      clear hB y v r1 r2 z
      rintro p wvrrr ⟨hsz, hB, y, v, r1, r2, z⟩
      replace y : blk wvrrr w.heap.size (rssc ⟨X.D, of3 1073741824 0 0, X.P, X.g⟩) 30 := y
      clear lt_y lt_v lt_r1 lt_r2 lt_z hsz hW0
      go_upto_region 10 with (fail))
   | (have hh : Flg 2 := m2
      clear hh
      go_upto_region 7 with (fail)
      have lt_y := y.lt
      have lt_v := v.lt
      have lt_r1 := r1.lt
      have lt_r2 := r2.lt
      have lt_z := z.lt
      have hW0 : w.heap.size ≤ wvrrr.heap.size := by simpa using hB.size
      apply wp_region_Q 3 [0, 1, 3] [] [_, _, _] (fun p L w' => wvrrr.heap.size ≤ w'.heap.size ∧ Below w.heap.size w w' ∧ blk w' w.heap.size (rssc ⟨X.D, A1, X.P, X.g⟩) 30 ∧ blk w' (w.heap.size + 1) (sec V) 33 ∧ blk w' (w.heap.size + 2) (rssc SSt.zero) 30 ∧ blk w' (w.heap.size + 3) (qfn fun _ => 0) 28 ∧ blk w' z_b (vfn (fun _ => 0)) 27) _ [(0, 77), (1, 78), (2, 79)] [0, 1, 2]
      case hn => rfl
      case hB => kernel_rfl
      case hds => kernel_rfl
      case hA => (intro p; simp only [putsD, Act.put, sIT, sCZ, sCS, gCZ, gCS]; exact rfl)
      case h0 => exact fun p => ⟨Nat.le_refl _, hB, y, v, r1, r2, z⟩
      case hmore => exact fun p L w1 w2 ⟨hsz, hB, y, v, r1, r2, z⟩ hm => ⟨Nat.le_trans hsz hm.size, hB.trans (hm.mono (Nat.le_trans hW0 hsz)), y.below hm y.lt, v.below hm v.lt, r1.below hm r1.lt, r2.below hm r2.lt, z.below hm z.lt⟩
      case hs =>
       intro more
       refine sVV ?_
       refine sWW ?_ ?_
       ·rintro p L w1 ⟨hsz, hB, y, v, r1, r2, z⟩ hk
        exact valR_part _ _ rfl _ 8 rfl _ _ v (vfn V.sun) (se_s V) _ Tryz.underlying27 rfl (by rw [vfn_size]; kernel_rfl) rfl
       refine stepD 2 rfl (fun p => rfl) (fun _ _ _ h => h) more ?_ ?_
       ·rintro p L w1 ⟨hsz, hB, y, v, r1, r2, z⟩ hk
        go_simp
        refine (BE.out _).mono ?_
        rintro e w2 ⟨rfl, h2⟩
        first | exact ⟨rfl, h2⟩ | (subst h2; exact ⟨rfl, Below.refl _ _⟩)
       exact AllI.nil
      case hV0 => exact fun p q => AllI.nil
      case' he =>
      clear hB y v r1 r2 z
      rintro p wvrrrr ⟨hsz, hB, y, v, r1, r2, z⟩
      clear lt_y lt_v lt_r1 lt_r2 lt_z hsz hW0
      go_upto_region 9 with (fail)
      have lt_y := y.lt
      have lt_v := v.lt
      have lt_r1 := r1.lt
      have lt_r2 := r2.lt
      have lt_z := z.lt
      have hW0 : w.heap.size ≤ wvrrrr.heap.size := by simpa using hB.size
      apply wp_region_Q 14 [0, 1, 3, 7, 15, 31, 63, 127, 255, 511, 1023, 2047, 4095, 8191] [] [_, _, _, _, _, _, _, _, _, _, _, _, _, (fun _ => undef)] (fun p L w' => wvrrrr.heap.size ≤ w'.heap.size ∧ Below w.heap.size w w' ∧ blk w' w.heap.size (bif L 13 then (rssc ⟨X.D, vunF (acrX V.sun), X.P, X.g⟩) else (rssc ⟨X.D, A1, X.P, X.g⟩)) 30 ∧ blk w' (w.heap.size + 1) (sec V) 33 ∧ blk w' (w.heap.size + 2) (rssc SSt.zero) 30 ∧ blk w' (w.heap.size + 3) (qfn fun _ => 0) 28 ∧ blk w' z_b (vfn (fun _ => 0)) 27) _ [(0, 83), (1, 84), (2, 85), (3, 86), (4, 87), (5, 88), (6, 89), (7, 90), (8, 91), (9, 82), (10, 92), (11, 93), (12, 94)] [0, 1, 2, 3, 4, 5, 6, 7, 8, 9, 10, 11, 12, 13]
      case hn => rfl
      case hB => kernel_rfl
      case hds => kernel_rfl
      case hA => (intro p; simp only [putsD, Act.put, sIT, sCZ, sCS, gCZ, gCS]; exact rfl)
      case h0 => exact fun p => ⟨Nat.le_refl _, hB, y, v, r1, r2, z⟩
      case hmore => exact fun p L w1 w2 ⟨hsz, hB, y, v, r1, r2, z⟩ hm => ⟨Nat.le_trans hsz hm.size, hB.trans (hm.mono (Nat.le_trans hW0 hsz)), y.below hm y.lt, v.below hm v.lt, r1.below hm r1.lt, r2.below hm r2.lt, z.below hm z.lt⟩
      case hs =>
       intro more
       iterate 2 (refine sVV ?_)
       refine sWW ?_ ?_
       ·rintro p L w1 ⟨hsz, hB, y, v, r1, r2, z⟩ hk
        have L13 : L 13 = false := hk.2.2 13 rfl
        have hc : w1.cell? ⟨(w.heap.size + 1), 9, none⟩ = some (.int .i64 (V.sun 1)) := v.cellIs rfl
        go_simp
        exact ⟨rfl, rfl⟩
       iterate 3 (refine sVV ?_)
       refine sWW ?_ ?_
       ·rintro p L w1 ⟨hsz, hB, y, v, r1, r2, z⟩ hk
        have L13 : L 13 = false := hk.2.2 13 rfl
        have hc : w1.cell? ⟨(w.heap.size + 1), 8, none⟩ = some (.int .i64 (V.sun 0)) := v.cellIs rfl
        go_simp
        exact ⟨rfl, rfl⟩
       refine sWW ?_ ?_
       ·intros; (try simp only [vfn, qfn]); go_simp; exact ⟨rfl, rfl⟩
       refine stepD 8 rfl (fun p => rfl) (fun _ _ _ h => h) more ?_ ?_
       ·rintro p L w1 ⟨hsz, hB, y, v, r1, r2, z⟩ hk
        go_simp
        refine (UN.out _).mono ?_
        rintro e w2 ⟨rfl, h2⟩
        first | exact ⟨rfl, h2⟩ | (subst h2; exact ⟨rfl, Below.refl _ _⟩)
       iterate 4 (refine sVV ?_)
       refine AllI.cons ?_ ?_
       ·refine stepI_store 13 rfl (fun p => rfl) (fun p => rfl) _ _ _ rfl (fun _ => w.heap.size) 3 (fun p => rfl) (fun p => (vfn (vunF (acrX V.sun)))) (fun p => rfl) (fun p => (rssc ⟨X.D, A1, X.P, X.g⟩)) (fun p => (rssc ⟨X.D, vunF (acrX V.sun), X.P, X.g⟩)) 30 (fun p => rsover_A _ _) (fun p => by first | (rw [vfn_size, rssc_size]; decide) | simp [vfn_size, rssc_size]) (fun p => by rw [vfn_size]; kernel_rfl) (fun p => vfn_one _) ?_ ?_
        ·rintro p L w1 ⟨hsz, hB, y, v, r1, r2, z⟩ hk
         have L13 : L 13 = false := hk.1
         rw [L13] at y
         try simp only [cond_true, cond_false] at y
         exact y
        ·rintro p L w1 ⟨hsz, hB, y, v, r1, r2, z⟩ hk
         have L13 : L 13 = false := hk.1
         skip
         refine ⟨(by simpa using hsz), Below.setRow hB (by first | exact Nat.le_trans hW0 hp.1 | exact ge_y | omega | (have := hB.size; simp at this ⊢; omega)) _, ?_, v.rowOther (by first | exact ne_v_y | exact Ne.symm ne_y_v | omega) _, r1.rowOther (by first | exact ne_r1_y | exact Ne.symm ne_y_r1 | omega) _, r2.rowOther (by first | exact ne_r2_y | exact Ne.symm ne_y_r2 | omega) _, z.rowOther (Ne.symm ne_y_z) _⟩
         rw [show upL L 13 13 = true from rfl]
         exact y.row _
       exact AllI.nil
      case hV0 => exact fun p q => AllI.nil
      case' he =>
      clear hB y v r1 r2 z
      rintro p wvrrr ⟨hsz, hB, y, v, r1, r2, z⟩
      replace y : blk wvrrr w.heap.size (rssc ⟨X.D, vunF (acrX V.sun), X.P, X.g⟩) 30 := y
      clear lt_y lt_v lt_r1 lt_r2 lt_z hsz hW0
      go_upto_region 10 with (fail))
   | (go_upto_region 10 with (fail))
  replace y : blk wvrrr w.heap.size (rssc ⟨X.D, A2, X.P, X.g⟩) 30 := by rw [hA2.out]; exact y
  clear hA2 RA1 BE UN
  have lt_y := y.lt
  have lt_v := v.lt
  have lt_r1 := r1.lt
  have lt_r2 := r2.lt
  have lt_z := z.lt
  have hW0 : w.heap.size ≤ wvrrr.heap.size := by simpa using hB.size
  apply wp_region_Q 9 [0, 1, 3, 7, 15, 31, 63, 127, 255] [6] [_, _, _, _, _, _, (fun p => .pointer (some ⟨p 6, 0, none⟩)), (fun _ => undef), _] (fun p L w' => wvrrr.heap.size ≤ w'.heap.size ∧ Below w.heap.size w w' ∧ blk w' w.heap.size (rssc ⟨X.D, A2, X.P, X.g⟩) 30 ∧ blk w' (w.heap.size + 1) (sec V) 33 ∧ blk w' (w.heap.size + 2) (rssc SSt.zero) 30 ∧ blk w' (w.heap.size + 3) (qfn fun _ => 0) 28 ∧ blk w' z_b (vfn (fun _ => 0)) 27 ∧ (L 6 = true → wvrrr.heap.size ≤ p 6 ∧ blk w' (p 6) (bif L 7 then (vfn To) else (vfn fun _ => 0)) 27)) _ [(0, 96), (1, 97), (2, 98), (3, 95), (4, 99), (5, 100), (6, 8), (8, 9)] [0, 1, 2, 3, 4, 5, 6, 7, 8]
  case hn => rfl
  case hB => kernel_rfl
  case hds => kernel_rfl
  case hA => (intro p; simp only [putsD, Act.put, sIT, sCZ, sCS, gCZ, gCS]; exact rfl)
  case h0 => exact fun p => ⟨Nat.le_refl _, hB, y, v, r1, r2, z, fun h => absurd h (by decide)⟩
  case hmore => exact fun p L w1 w2 ⟨hsz, hB, y, v, r1, r2, z, h_tw⟩ hm => ⟨Nat.le_trans hsz hm.size, hB.trans (hm.mono (Nat.le_trans hW0 hsz)), y.below hm y.lt, v.below hm v.lt, r1.below hm r1.lt, r2.below hm r2.lt, z.below hm z.lt, fun hl => ⟨(h_tw hl).1, (h_tw hl).2.below hm (h_tw hl).2.lt⟩⟩
  case hs =>
   intro more
   refine sVV ?_
   refine sWW ?_ ?_
   ·rintro p L w1 ⟨hsz, hB, y, v, r1, r2, z, h_tw⟩ hk
    have L7 : L 7 = false := hk.2.2 7 rfl
    exact valR_part _ _ rfl _ 3 rfl _ _ y (vfn A2) (rs_A ⟨X.D, A2, X.P, X.g⟩) _ Tryz.underlying27 rfl (by rw [vfn_size]; kernel_rfl) rfl
   refine stepD 2 rfl (fun p => rfl) (fun _ _ _ h => h) more ?_ ?_
   ·rintro p L w1 ⟨hsz, hB, y, v, r1, r2, z, h_tw⟩ hk
    go_simp
    refine (SC.out _).mono ?_
    rintro e w2 ⟨rfl, h2⟩
    first | exact ⟨rfl, h2⟩ | (subst h2; exact ⟨rfl, Below.refl _ _⟩)
   iterate 3 (refine sVV ?_)
   refine AllI.cons ?_ ?_
   ·refine stepI_alloc 6 rfl (fun p => rfl) rfl (vfn fun _ => 0) 27 (fun p => rfl) ?_ ?_
    ·intro p w1
     go_simp
     first | done | rfl | rw [zero_vec]
    rintro p L w1 ⟨hsz, hB, y, v, r1, r2, z, h_tw⟩ hk
    have L7 : L 7 = false := hk.2.2 7 rfl
    refine ⟨Nat.le_trans hsz (by simp), hB.alloc (Nat.le_trans (by first | exact hW0 | (have := hB.size; simp at this ⊢; omega)) hsz) _, y.alloc _, v.alloc _, r1.alloc _, r2.alloc _, z.alloc _, fun _ => ⟨hsz, ?_⟩⟩
    rw [show upL L 6 7 = false from L7]
    exact blk.new _ _ _
   refine AllI.cons ?_ ?_
   ·refine stepI_store 7 rfl (fun p => rfl) (fun p => rfl) _ _ _ rfl (fun p => p 6) 0 (fun p => rfl) (fun p => (vfn To)) (fun p => rfl) (fun p => (vfn fun _ => 0)) (fun p => (vfn To)) 27 (fun p => over_v _ _) (fun p => by first | (rw [vfn_size, vfn_size]; decide) | simp [vfn_size, vfn_size]) (fun p => by rw [vfn_size]; kernel_rfl) (fun p => vfn_one _) ?_ ?_
    ·rintro p L w1 ⟨hsz, hB, y, v, r1, r2, z, h_tw⟩ hk
     have L7 : L 7 = false := hk.1
     have hh := (h_tw (hk.2.1 6 rfl)).2
     rw [L7] at hh
     try simp only [cond_true, cond_false] at hh
     exact hh
    ·rintro p L w1 ⟨hsz, hB, y, v, r1, r2, z, h_tw⟩ hk
     have L7 : L 7 = false := hk.1
     skip
     have hp := h_tw (hk.2.1 6 rfl)
     refine ⟨(by simpa using hsz), Below.setRow hB (by first | exact Nat.le_trans hW0 hp.1 | exact ge_tw | omega | (have := hB.size; simp at this ⊢; omega)) _, y.rowOther (by first | exact Nat.ne_of_lt (Nat.lt_of_lt_of_le lt_y hp.1) | omega) _, v.rowOther (by first | exact Nat.ne_of_lt (Nat.lt_of_lt_of_le lt_v hp.1) | omega) _, r1.rowOther (by first | exact Nat.ne_of_lt (Nat.lt_of_lt_of_le lt_r1 hp.1) | omega) _, r2.rowOther (by first | exact Nat.ne_of_lt (Nat.lt_of_lt_of_le lt_r2 hp.1) | omega) _, z.rowOther (by first | exact Nat.ne_of_lt (Nat.lt_of_lt_of_le lt_z hp.1) | omega) _, fun _ => ⟨hp.1, ?_⟩⟩
     rw [show upL L 7 7 = true from rfl]
     exact hp.2.row _
   refine sVV ?_
   exact AllI.nil
  case hV0 =>
   intro p q
   refine AllI.cons ?_ ?_
   ·skip
    iterate 9 (refine AllI.cons (by first | exact .inl rfl | (refine .inr ?_; simp only [gCZ, gCS]; done) | exact .inr rfl) ?_)
    exact AllI.nil
   exact AllI.nil
  case he =>
  clear hB y v r1 r2 z
  rintro p wvrrrr ⟨hsz, hB, y, v, r1, r2, z, h_tw⟩
  obtain ⟨le_tw, tw⟩ := h_tw rfl
  clear h_tw
  replace tw : blk wvrrrr (p 6) (vfn To) 27 := tw
  have ne_y_tw : w.heap.size ≠ p 6 := Nat.ne_of_lt (Nat.lt_of_lt_of_le lt_y le_tw)
  have ne_v_tw : (w.heap.size + 1) ≠ p 6 := Nat.ne_of_lt (Nat.lt_of_lt_of_le lt_v le_tw)
  have ne_r1_tw : (w.heap.size + 2) ≠ p 6 := Nat.ne_of_lt (Nat.lt_of_lt_of_le lt_r1 le_tw)
  have ne_r2_tw : (w.heap.size + 3) ≠ p 6 := Nat.ne_of_lt (Nat.lt_of_lt_of_le lt_r2 le_tw)
  have ne_z_tw : z_b ≠ p 6 := Nat.ne_of_lt (Nat.lt_of_lt_of_le lt_z le_tw)
  have ge_tw : w.heap.size ≤ p 6 := Nat.le_trans hW0 le_tw
  generalize p 6 = tw_b at *
  clear lt_y lt_v lt_r1 lt_r2 lt_z hsz hW0 SC
  go_upto_region 11 with (fail)
  have lt_y := y.lt
  have lt_v := v.lt
  have lt_r1 := r1.lt
  have lt_r2 := r2.lt
  have lt_z := z.lt
  have lt_tw := tw.lt
  have hW0 : w.heap.size ≤ wvrrrr.heap.size := by simpa using hB.size
  apply wp_region_Q 11 [0, 1, 3, 7, 15, 31, 63, 127, 255, 511, 1023] [7, 8] [_, _, _, _, _, _, _, (fun p => .pointer (some ⟨p 7, 0, none⟩)), (fun p => .pointer (some ⟨p 8, 0, none⟩)), (fun _ => undef), (fun _ => undef)] (fun p L w' => wvrrrr.heap.size ≤ w'.heap.size ∧ Below w.heap.size w w' ∧ blk w' w.heap.size (rssc ⟨X.D, A2, X.P, X.g⟩) 30 ∧ blk w' (w.heap.size + 1) (sec V) 33 ∧ blk w' (w.heap.size + 2) (rssc SSt.zero) 30 ∧ blk w' (w.heap.size + 3) (qfn fun _ => 0) 28 ∧ blk w' z_b (vfn (fun _ => 0)) 27 ∧ blk w' tw_b (vfn To) 27 ∧ (L 7 = true → wvrrrr.heap.size ≤ p 7 ∧ blk w' (p 7) (bif L 9 then (rssc N) else (rssc SSt.zero)) 30) ∧ (L 8 = true → wvrrrr.heap.size ≤ p 8 ∧ blk w' (p 8) (bif L 10 then (qfn C) else (qfn fun _ => 0)) 28) ∧ (L 7 = true → L 8 = true → p 7 ≠ p 8)) _ [(0, 102), (1, 103), (2, 104), (3, 105), (4, 101), (5, 106), (6, 107), (7, 10), (8, 11)] [0, 1, 2, 3, 4, 5, 6, 7, 8, 9, 10]
  case hn => rfl
  case hB => kernel_rfl
  case hds => kernel_rfl
  case hA => (intro p; simp only [putsD, Act.put, sIT, sCZ, sCS, gCZ, gCS]; exact rfl)
  case h0 => exact fun p => ⟨Nat.le_refl _, hB, y, v, r1, r2, z, tw, fun h => absurd h (by decide), fun h => absurd h (by decide), fun h => absurd h (by decide)⟩
  case hmore => exact fun p L w1 w2 ⟨hsz, hB, y, v, r1, r2, z, tw, h_n, h_c, hne_n_c⟩ hm => ⟨Nat.le_trans hsz hm.size, hB.trans (hm.mono (Nat.le_trans hW0 hsz)), y.below hm y.lt, v.below hm v.lt, r1.below hm r1.lt, r2.below hm r2.lt, z.below hm z.lt, tw.below hm tw.lt, fun hl => ⟨(h_n hl).1, (h_n hl).2.below hm (h_n hl).2.lt⟩, fun hl => ⟨(h_c hl).1, (h_c hl).2.below hm (h_c hl).2.lt⟩, hne_n_c⟩
  case hs =>
   intro more
   refine sWW ?_ ?_
   ·rintro p L w1 ⟨hsz, hB, y, v, r1, r2, z, tw, h_n, h_c, hne_n_c⟩ hk
    have L9 : L 9 = false := hk.2.2 9 rfl
    have L10 : L 10 = false := hk.2.2 10 rfl
    first | exact valR_row _ _ rfl _ rfl _ _ y _ Tryz.underlying30 rfl (by first | kernel_rfl | (rw [rssc_size]; kernel_rfl)) rfl | (have hc := y.cellIs (show _[0]? = some _ from rfl); go_simp; exact ⟨rfl, rfl⟩)
   refine sWW ?_ ?_
   ·rintro p L w1 ⟨hsz, hB, y, v, r1, r2, z, tw, h_n, h_c, hne_n_c⟩ hk
    have L9 : L 9 = false := hk.2.2 9 rfl
    have L10 : L 10 = false := hk.2.2 10 rfl
    first | exact valR_row _ _ rfl _ rfl _ _ v _ Tryz.underlying33 rfl (by first | kernel_rfl | (rw [sec_size]; kernel_rfl)) rfl | (have hc := v.cellIs (show _[0]? = some _ from rfl); go_simp; exact ⟨rfl, rfl⟩)
   refine sWW ?_ ?_
   ·rintro p L w1 ⟨hsz, hB, y, v, r1, r2, z, tw, h_n, h_c, hne_n_c⟩ hk
    have L9 : L 9 = false := hk.2.2 9 rfl
    have L10 : L 10 = false := hk.2.2 10 rfl
    first | exact valR_row _ _ rfl _ rfl _ _ tw _ Tryz.underlying27 rfl (by first | kernel_rfl | (rw [vfn_size]; kernel_rfl)) rfl | (have hc := tw.cellIs (vfn_get _ (show 0 < 3 by omega)); go_simp; exact ⟨rfl, rfl⟩)
   refine stepD 3 rfl (fun p => rfl) (fun _ _ _ h => h) more ?_ ?_
   ·rintro p L w1 ⟨hsz, hB, y, v, r1, r2, z, tw, h_n, h_c, hne_n_c⟩ hk
    go_simp
    refine (ST.out _).mono ?_
    rintro e w2 ⟨rfl, h2⟩
    first | exact ⟨rfl, h2⟩ | (subst h2; exact ⟨rfl, Below.refl _ _⟩)
   iterate 3 (refine sVV ?_)
   refine AllI.cons ?_ ?_
   ·refine stepI_alloc 7 rfl (fun p => rfl) rfl (rssc SSt.zero) 30 (fun p => rfl) ?_ ?_
    ·intro p w1
     go_simp
     first | done | rfl | rw [rssc_zero]
    rintro p L w1 ⟨hsz, hB, y, v, r1, r2, z, tw, h_n, h_c, hne_n_c⟩ hk
    have L9 : L 9 = false := hk.2.2 9 rfl
    have L10 : L 10 = false := hk.2.2 10 rfl
    refine ⟨Nat.le_trans hsz (by simp), hB.alloc (Nat.le_trans (by first | exact hW0 | (have := hB.size; simp at this ⊢; omega)) hsz) _, y.alloc _, v.alloc _, r1.alloc _, r2.alloc _, z.alloc _, tw.alloc _, fun _ => ⟨hsz, ?_⟩, fun hl => absurd hl (by rw [show upL L 7 8 = false from hk.2.2 8 rfl]; decide), fun _ hl => absurd hl (by rw [show upL L 7 8 = false from hk.2.2 8 rfl]; decide)⟩
    rw [show upL L 7 9 = false from L9]
    exact blk.new _ _ _
   refine AllI.cons ?_ ?_
   ·refine stepI_alloc 8 rfl (fun p => rfl) rfl (qfn fun _ => 0) 28 (fun p => rfl) ?_ ?_
    ·intro p w1
     go_simp
     first | done | rfl | rw [zero_spd]
    rintro p L w1 ⟨hsz, hB, y, v, r1, r2, z, tw, h_n, h_c, hne_n_c⟩ hk
    have L9 : L 9 = false := hk.2.2 9 rfl
    have L10 : L 10 = false := hk.2.2 10 rfl
    refine ⟨Nat.le_trans hsz (by simp), hB.alloc (Nat.le_trans (by first | exact hW0 | (have := hB.size; simp at this ⊢; omega)) hsz) _, y.alloc _, v.alloc _, r1.alloc _, r2.alloc _, z.alloc _, tw.alloc _, fun hl => ⟨(h_n hl).1, (h_n hl).2.alloc _⟩, fun _ => ⟨hsz, ?_⟩, fun hl _ => Nat.ne_of_lt (h_n hl).2.lt⟩
    rw [show upL L 8 10 = false from L10]
    exact blk.new _ _ _
   refine AllI.cons ?_ ?_
   ·refine stepI_store 9 rfl (fun p => rfl) (fun p => rfl) _ _ _ rfl (fun p => p 7) 0 (fun p => rfl) (fun p => (rssc N)) (fun p => rfl) (fun p => (rssc SSt.zero)) (fun p => (rssc N)) 30 (fun p => rsover _ _) (fun p => by first | (rw [rssc_size, rssc_size]; decide) | simp [rssc_size, rssc_size]) (fun p => by rw [rssc_size]; kernel_rfl) (fun p => rssc_one _) ?_ ?_
    ·rintro p L w1 ⟨hsz, hB, y, v, r1, r2, z, tw, h_n, h_c, hne_n_c⟩ hk
     have L9 : L 9 = false := hk.1
     have L10 : L 10 = false := hk.2.2 10 rfl
     have hh := (h_n (hk.2.1 7 rfl)).2
     rw [L9] at hh
     try simp only [cond_true, cond_false] at hh
     exact hh
    ·rintro p L w1 ⟨hsz, hB, y, v, r1, r2, z, tw, h_n, h_c, hne_n_c⟩ hk
     have L9 : L 9 = false := hk.1
     have L10 : L 10 = false := hk.2.2 10 rfl
     skip
     have hp := h_n (hk.2.1 7 rfl)
     refine ⟨(by simpa using hsz), Below.setRow hB (by first | exact Nat.le_trans hW0 hp.1 | exact ge_n | omega | (have := hB.size; simp at this ⊢; omega)) _, y.rowOther (by first | exact Nat.ne_of_lt (Nat.lt_of_lt_of_le lt_y hp.1) | omega) _, v.rowOther (by first | exact Nat.ne_of_lt (Nat.lt_of_lt_of_le lt_v hp.1) | omega) _, r1.rowOther (by first | exact Nat.ne_of_lt (Nat.lt_of_lt_of_le lt_r1 hp.1) | omega) _, r2.rowOther (by first | exact Nat.ne_of_lt (Nat.lt_of_lt_of_le lt_r2 hp.1) | omega) _, z.rowOther (by first | exact Nat.ne_of_lt (Nat.lt_of_lt_of_le lt_z hp.1) | omega) _, tw.rowOther (by first | exact Nat.ne_of_lt (Nat.lt_of_lt_of_le lt_tw hp.1) | omega) _, fun _ => ⟨hp.1, ?_⟩, fun hl => ⟨(h_c hl).1, (h_c hl).2.rowOther (Ne.symm (hne_n_c (hk.2.1 7 rfl) hl)) _⟩, hne_n_c⟩
     rw [show upL L 9 9 = true from rfl]
     exact hp.2.row _
   refine AllI.cons ?_ ?_
   ·refine stepI_store 10 rfl (fun p => rfl) (fun p => rfl) _ _ _ rfl (fun p => p 8) 0 (fun p => rfl) (fun p => (qfn C)) (fun p => rfl) (fun p => (qfn fun _ => 0)) (fun p => (qfn C)) 28 (fun p => over_qq _ _) (fun p => by first | (rw [qfn_size, qfn_size]; decide) | simp [qfn_size, qfn_size]) (fun p => by rw [qfn_size]; kernel_rfl) (fun p => qfn_one _) ?_ ?_
    ·rintro p L w1 ⟨hsz, hB, y, v, r1, r2, z, tw, h_n, h_c, hne_n_c⟩ hk
     have L9 : L 9 = true := hk.2.1 9 rfl
     have L10 : L 10 = false := hk.1
     have hh := (h_c (hk.2.1 8 rfl)).2
     rw [L10] at hh
     try simp only [cond_true, cond_false] at hh
     exact hh
    ·rintro p L w1 ⟨hsz, hB, y, v, r1, r2, z, tw, h_n, h_c, hne_n_c⟩ hk
     have L9 : L 9 = true := hk.2.1 9 rfl
     have L10 : L 10 = false := hk.1
     skip
     have hp := h_c (hk.2.1 8 rfl)
     refine ⟨(by simpa using hsz), Below.setRow hB (by first | exact Nat.le_trans hW0 hp.1 | exact ge_c | omega | (have := hB.size; simp at this ⊢; omega)) _, y.rowOther (by first | exact Nat.ne_of_lt (Nat.lt_of_lt_of_le lt_y hp.1) | omega) _, v.rowOther (by first | exact Nat.ne_of_lt (Nat.lt_of_lt_of_le lt_v hp.1) | omega) _, r1.rowOther (by first | exact Nat.ne_of_lt (Nat.lt_of_lt_of_le lt_r1 hp.1) | omega) _, r2.rowOther (by first | exact Nat.ne_of_lt (Nat.lt_of_lt_of_le lt_r2 hp.1) | omega) _, z.rowOther (by first | exact Nat.ne_of_lt (Nat.lt_of_lt_of_le lt_z hp.1) | omega) _, tw.rowOther (by first | exact Nat.ne_of_lt (Nat.lt_of_lt_of_le lt_tw hp.1) | omega) _, fun hl => ⟨(h_n hl).1, (h_n hl).2.rowOther (hne_n_c hl (hk.2.1 8 rfl)) _⟩, fun _ => ⟨hp.1, ?_⟩, hne_n_c⟩
     rw [show upL L 10 10 = true from rfl]
     exact hp.2.row _
   exact AllI.nil
  case hV0 =>
   intro p q
   refine AllI.cons ?_ ?_
   ·skip
    iterate 11 (refine AllI.cons (by first | exact .inl rfl | (refine .inr ?_; simp only [gCZ, gCS]; done) | exact .inr rfl) ?_)
    exact AllI.nil
   refine AllI.cons ?_ ?_
   ·skip
    iterate 11 (refine AllI.cons (by first | exact .inl rfl | (refine .inr ?_; simp only [gCZ, gCS]; done) | exact .inr rfl) ?_)
    exact AllI.nil
   exact AllI.nil
  case he =>
  clear hB y v r1 r2 z tw
  rintro p wvrrrrr ⟨hsz, hB, y, v, r1, r2, z, tw, h_n, h_c, hne_n_c⟩
  obtain ⟨le_n, n⟩ := h_n rfl
  clear h_n
  obtain ⟨le_c, c⟩ := h_c rfl
  clear h_c
  have ne_n_c : p 7 ≠ p 8 := hne_n_c rfl rfl
  clear hne_n_c
  replace n : blk wvrrrrr (p 7) (rssc N) 30 := n
  replace c : blk wvrrrrr (p 8) (qfn C) 28 := c
  have ne_y_n : w.heap.size ≠ p 7 := Nat.ne_of_lt (Nat.lt_of_lt_of_le lt_y le_n)
  have ne_v_n : (w.heap.size + 1) ≠ p 7 := Nat.ne_of_lt (Nat.lt_of_lt_of_le lt_v le_n)
  have ne_r1_n : (w.heap.size + 2) ≠ p 7 := Nat.ne_of_lt (Nat.lt_of_lt_of_le lt_r1 le_n)
  have ne_r2_n : (w.heap.size + 3) ≠ p 7 := Nat.ne_of_lt (Nat.lt_of_lt_of_le lt_r2 le_n)
  have ne_z_n : z_b ≠ p 7 := Nat.ne_of_lt (Nat.lt_of_lt_of_le lt_z le_n)
  have ne_tw_n : tw_b ≠ p 7 := Nat.ne_of_lt (Nat.lt_of_lt_of_le lt_tw le_n)
  have ge_n : w.heap.size ≤ p 7 := Nat.le_trans hW0 le_n
  have ne_y_c : w.heap.size ≠ p 8 := Nat.ne_of_lt (Nat.lt_of_lt_of_le lt_y le_c)
  have ne_v_c : (w.heap.size + 1) ≠ p 8 := Nat.ne_of_lt (Nat.lt_of_lt_of_le lt_v le_c)
  have ne_r1_c : (w.heap.size + 2) ≠ p 8 := Nat.ne_of_lt (Nat.lt_of_lt_of_le lt_r1 le_c)
  have ne_r2_c : (w.heap.size + 3) ≠ p 8 := Nat.ne_of_lt (Nat.lt_of_lt_of_le lt_r2 le_c)
  have ne_z_c : z_b ≠ p 8 := Nat.ne_of_lt (Nat.lt_of_lt_of_le lt_z le_c)
  have ne_tw_c : tw_b ≠ p 8 := Nat.ne_of_lt (Nat.lt_of_lt_of_le lt_tw le_c)
  have ge_c : w.heap.size ≤ p 8 := Nat.le_trans hW0 le_c
  generalize p 7 = n_b at *
  generalize p 8 = c_b at *
  clear lt_y lt_v lt_r1 lt_r2 lt_z lt_tw hsz hW0 ST
  go_upto_region 12 with (fail)
  have lt_y := y.lt
  have lt_v := v.lt
  have lt_r1 := r1.lt
  have lt_r2 := r2.lt
  have lt_z := z.lt
  have lt_tw := tw.lt
  have lt_n := n.lt
  have lt_c := c.lt
  have hW0 : w.heap.size ≤ wvrrrrr.heap.size := by simpa using hB.size
  apply wp_region_I 5 [0, 0, 1, 7, 15] [] [_, _, (fun _ => undef), (fun _ => undef), _] (fun p L w' => wvrrrrr.heap.size ≤ w'.heap.size ∧ Below w.heap.size w w' ∧ blk w' w.heap.size (rssc ⟨X.D, A2, X.P, X.g⟩) 30 ∧ blk w' (w.heap.size + 1) (sec V) 33 ∧ blk w' (w.heap.size + 2) (bif L 2 then (rssc N) else (rssc SSt.zero)) 30 ∧ blk w' (w.heap.size + 3) (bif L 3 then (qfn C) else (qfn fun _ => 0)) 28 ∧ blk w' z_b (vfn (fun _ => 0)) 27 ∧ blk w' tw_b (vfn To) 27 ∧ blk w' n_b (rssc N) 30 ∧ blk w' c_b (qfn C) 28) _ [(0, 108), (1, 109), (4, 6)] [0, 1, 2, 3, 4]
  case hn => rfl
  case hm => kernel_rfl
  case hB => kernel_rfl
  case hds => kernel_rfl
  case hA => (intro p; simp only [putsD, Act.put, sIT, sCZ, sCS, gCZ, gCS]; exact rfl)
  case h0 => exact fun p => ⟨Nat.le_refl _, hB.drew, y.drew, v.drew, r1.drew, r2.drew, z.drew, tw.drew, n.drew, c.drew⟩
  case hmore => exact fun p L w1 w2 ⟨hsz, hB, y, v, r1, r2, z, tw, n, c⟩ hm => ⟨Nat.le_trans hsz hm.size, hB.trans (hm.mono (Nat.le_trans hW0 hsz)), y.below hm y.lt, v.below hm v.lt, r1.below hm r1.lt, r2.below hm r2.lt, z.below hm z.lt, tw.below hm tw.lt, n.below hm n.lt, c.below hm c.lt⟩
  case hs =>
   intro more
   refine sWW ?_ ?_
   ·rintro p L w1 ⟨hsz, hB, y, v, r1, r2, z, tw, n, c⟩ hk
    have L2 : L 2 = false := hk.2.2 2 rfl
    have L3 : L 3 = false := hk.2.2 3 rfl
    first | exact valR_row _ _ rfl _ rfl _ _ n _ Tryz.underlying30 rfl (by first | kernel_rfl | (rw [rssc_size]; kernel_rfl)) rfl | (have hc := n.cellIs (show _[0]? = some _ from rfl); go_simp; exact ⟨rfl, rfl⟩)
   refine sWW ?_ ?_
   ·rintro p L w1 ⟨hsz, hB, y, v, r1, r2, z, tw, n, c⟩ hk
    have L3 : L 3 = false := hk.2.2 3 rfl
    first | exact valR_row _ _ rfl _ rfl _ _ c _ Tryz.underlying28 rfl (by first | kernel_rfl | (rw [qfn_size]; kernel_rfl)) rfl | (have hc := c.cellIs (qfn_get _ (show 0 < 4 by omega)); go_simp; exact ⟨rfl, rfl⟩)
   refine AllI.cons ?_ ?_
   ·refine stepI_store 2 rfl (fun p => rfl) (fun p => rfl) _ _ _ rfl (fun _ => (w.heap.size + 2)) 0 (fun p => rfl) (fun p => (rssc N)) (fun p => rfl) (fun p => (rssc SSt.zero)) (fun p => (rssc N)) 30 (fun p => rsover _ _) (fun p => by first | (rw [rssc_size, rssc_size]; decide) | simp [rssc_size, rssc_size]) (fun p => by rw [rssc_size]; kernel_rfl) (fun p => rssc_one _) ?_ ?_
    ·rintro p L w1 ⟨hsz, hB, y, v, r1, r2, z, tw, n, c⟩ hk
     have L2 : L 2 = false := hk.1
     have L3 : L 3 = false := hk.2.2 3 rfl
     rw [L2] at r1
     try simp only [cond_true, cond_false] at r1
     exact r1
    ·rintro p L w1 ⟨hsz, hB, y, v, r1, r2, z, tw, n, c⟩ hk
     have L2 : L 2 = false := hk.1
     have L3 : L 3 = false := hk.2.2 3 rfl
     skip
     refine ⟨(by simpa using hsz), Below.setRow hB (by first | exact Nat.le_trans hW0 hp.1 | exact ge_r1 | omega | (have := hB.size; simp at this ⊢; omega)) _, y.rowOther (by first | exact ne_y_r1 | exact Ne.symm ne_r1_y | omega) _, v.rowOther (by first | exact ne_v_r1 | exact Ne.symm ne_r1_v | omega) _, ?_, r2.rowOther (by first | exact ne_r2_r1 | exact Ne.symm ne_r1_r2 | omega) _, z.rowOther (Ne.symm ne_r1_z) _, tw.rowOther (Ne.symm ne_r1_tw) _, n.rowOther (Ne.symm ne_r1_n) _, c.rowOther (Ne.symm ne_r1_c) _⟩
     rw [show upL L 2 2 = true from rfl]
     exact r1.row _
   refine AllI.cons ?_ ?_
   ·refine stepI_store 3 rfl (fun p => rfl) (fun p => rfl) _ _ _ rfl (fun _ => (w.heap.size + 3)) 0 (fun p => rfl) (fun p => (qfn C)) (fun p => rfl) (fun p => (qfn fun _ => 0)) (fun p => (qfn C)) 28 (fun p => over_qq _ _) (fun p => by first | (rw [qfn_size, qfn_size]; decide) | simp [qfn_size, qfn_size]) (fun p => by rw [qfn_size]; kernel_rfl) (fun p => qfn_one _) ?_ ?_
    ·rintro p L w1 ⟨hsz, hB, y, v, r1, r2, z, tw, n, c⟩ hk
     have L2 : L 2 = true := hk.2.1 2 rfl
     have L3 : L 3 = false := hk.1
     rw [L3] at r2
     try simp only [cond_true, cond_false] at r2
     exact r2
    ·rintro p L w1 ⟨hsz, hB, y, v, r1, r2, z, tw, n, c⟩ hk
     have L2 : L 2 = true := hk.2.1 2 rfl
     have L3 : L 3 = false := hk.1
     skip
     refine ⟨(by simpa using hsz), Below.setRow hB (by first | exact Nat.le_trans hW0 hp.1 | exact ge_r2 | omega | (have := hB.size; simp at this ⊢; omega)) _, y.rowOther (by first | exact ne_y_r2 | exact Ne.symm ne_r2_y | omega) _, v.rowOther (by first | exact ne_v_r2 | exact Ne.symm ne_r2_v | omega) _, r1.rowOther (by first | exact ne_r1_r2 | exact Ne.symm ne_r2_r1 | omega) _, ?_, z.rowOther (Ne.symm ne_r2_z) _, tw.rowOther (Ne.symm ne_r2_tw) _, n.rowOther (Ne.symm ne_r2_n) _, c.rowOther (Ne.symm ne_r2_c) _⟩
     rw [show upL L 3 3 = true from rfl]
     exact r2.row _
   refine sVV ?_
   exact AllI.nil
  case hV0 => exact fun p q => AllI.nil
  case he =>
  clear hB y v r1 r2 z tw n c
  rintro p wvrrrrrr ⟨hsz, hB, y, v, r1, r2, z, tw, n, c⟩
  replace r1 : blk wvrrrrrr (w.heap.size + 2) (rssc N) 30 := r1
  replace r2 : blk wvrrrrrr (w.heap.size + 3) (qfn C) 28 := r2
  clear lt_y lt_v lt_r1 lt_r2 lt_z lt_tw lt_n lt_c hsz hW0
  go_wp2_with (fail)
  refine bodyPost_ret (results_cct rfl _ _ _ _ _ _ _ _ _ _ _ _ rfl r1 rfl r2 Tryz.underlying30 rfl (by first | kernel_rfl | (rw [rssc_size]; kernel_rfl)) Tryz.underlying28 rfl (by first | kernel_rfl | (rw [qfn_size]; kernel_rfl))) rfl ?_
  refine ⟨?_, hB⟩
  rfl
end Go.Proofs.YtkmelddejdikgaaGreat
