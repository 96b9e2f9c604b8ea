/-
  Ticks of any act behind rest, plainly: the body has the momentum that is commanded. No program in sight. The loop: a tick of any act, behind rest. Controls stay within limits. The loop: made. The loop: rested. Bodies at rest stay so. The statement on momenta that follow.
-/
import Derived.Test.YtjnocbjngojigaaRstF
import Derived.Test.YtjnocbjngojigaaLpB
import Derived.Test.YtjnocbjngojigaaStL
import Derived.Test.YtjnocbjngojigaaStF
import Derived.Test.YtjnocbjngojigaaStM
import Derived.Test.YtjnocbjngojigaaArg
import Derived.Test.YtjnocbjngojigaaBdR
import Derived.Test.YtjnocbjngojigaaBdD
set_option linter.unusedSimpArgs false
set_option linter.unusedVariables false
namespace Go.Proofs.Ytjnocbjngojigaa
open Go.RowKit PM Dt
def tgD (X : BSt) (D : Nat → Int) : Nat → Int := allocF (fun i => qbackF X.Q X.T i - D i) X.f
structure FI (X : BSt) (S : SSt) : Prop where
  b : BI X
  s : SSI S
  z : ∀ i : Nat, i < 4 → (i : Int) = X.f → X.h i = 0
  n : ∀ i, i < 4 → -216001 ≤ X.h i - tgD X S.D i ∧ X.h i - tgD X S.D i ≤ 216001
theorem FI.ri {X : BSt} {S : SSt} (k : FI X S) : RI X SSt.zero :=
  ⟨k.b, ⟨fun i hi => z0 (N := 4194304) (by decide), fun i hi => z0 (N := 1073741824) (by decide)⟩, k.z, fun i hi => rfl⟩
theorem FI.w {X : BSt} {S : SSt} (k : FI X S) : isW X.f = true := k.ri.w
theorem FI.of {X : BSt} {S : SSt} (k : RI X S) {n : Nat} (hn : 19 ≤ n) (h : Stage n X) : FI X S := by
  have r : R0 X := by
    rcases h with ⟨h1, _⟩ | ⟨_, h2, _⟩ | ⟨_, h2, _⟩
    · omega
    · omega
    · exact h2
  have e : tgD X S.D = tgt X := allocF_congr (fun i hi => by show _ - _ = _; rw [k.d i hi]; omega) k.w
  exact ⟨k.b, k.s, k.z, fun i hi => by rw [e, r i hi]; omega⟩
theorem stp_reach {h P : Int} (hh : -16777216 ≤ h ∧ h ≤ 16777216) (hP : -16777216 ≤ P ∧ P ≤ 16777216) (hE : -1000000 ≤ P - h ∧ P - h ≤ 1000000) : stpX h (cmdX h P) = P := by
  have hf := frW_bd hh
  have hc : cmdX h P = P - h + frW h := by unfold cmdX; rw [clampW_id hP]
  unfold stpX
  rw [hc, clampT_id (by omega), show h - frW h + (P - h + frW h) = P by omega, clampW_id hP]
def folB (X : BSt) (c : Nat → Int) : BSt := tickX X c (fun _ => 0)
theorem fl_h (X : BSt) (c : Nat → Int) (i : Nat) : (folB X c).h i = if (i : Int) = X.f then X.h i else stpX (X.h i) (c i) := by
  unfold folB tickX
  rw [if_pos z_small]; rfl
theorem fl_f (X : BSt) (c : Nat → Int) : (folB X c).f = X.f := by unfold folB tickX; rw [if_pos z_small]
theorem fl_Q (X : BSt) (c : Nat → Int) : (folB X c).Q = attG X.Q (momG X.Q X.T (folB X c).h) := by unfold folB tickX; rw [if_pos z_small]; rfl
theorem fl_T {X : BSt} (k : BI X) (c : Nat → Int) : ∀ i, i < 3 → (folB X c).T i = X.T i := fun i hi => by
  have hD : ∀ i, i < 3 → tickD X c (fun _ => 0) i = 0 := fun i hi => by
    obtain ⟨qI, qv⟩ := k.att c
    obtain ⟨_, _, hb⟩ := valid_back qI qv (by decide) (by decide) (vv0 (v := fun _ => 0) (fun i hi => rfl))
    have := (hb i hi).2
    unfold tickD; omega
  have bT := fun i hi => (allB_bd k.t).1 i hi
  obtain ⟨_, hv⟩ := vadd_ok (f := X.T) (g := tickD X c (fun _ => 0)) (fun i hi => by have := bT i hi; omega) (fun i hi => by rw [hD i hi]; decide)
  unfold folB tickX
  rw [if_pos z_small]
  show (if allB (tickS X c fun _ => 0) = true then tickS X c (fun _ => 0) else X.T) i = X.T i
  split
  · show vaddF X.T (tickD X c fun _ => 0) i = _
    rw [hv i, hD i hi]; omega
  · rfl
theorem fol_cmd {X : BSt} {S : SSt} (k : FI X S) (sun To : Nat → Int) (hb : ∀ i, i < 3 → -4194304 ≤ stD (arrB S (senseV X sun)) S To i ∧ stD (arrB S (senseV X sun)) S To i ≤ 4194304) :
    stC S (senseV X sun) To = cmdF X.h X.f (tgD X (stD (arrB S (senseV X sun)) S To)) := by
  obtain ⟨_, hm⟩ := momG_eq k.b.q k.b.v k.b.t k.b.s
  unfold stC stP allF tgD
  generalize stD (arrB S (senseV X sun)) S To = D at *
  have hr : ∀ i, i < 3 → rstF (senseV X sun) D i = qbackF X.Q X.T i - D i := fun i hi => by
    have h1 := (hm i hi).2
    show sumW X.h i + ((4 * momF X i) / 4 - D i) = _
    have h3 : momF X i = qbackF X.Q X.T i - sumW X.h i := h1
    rw [h3]; omega
  have hok : okV (rstF (senseV X sun) D) = true := (okV_iff _).2 fun i hi => (vb_iff _).2 (by rw [hr i hi]; have := (hm i hi).1; have := hb i hi; omega)
  rw [hok, show isW (senseV X sun).f = true from k.w]
  show cmdF X.h X.f (allocF _ X.f) = _
  rw [allocF_congr hr k.w]
theorem fol_tick {X : BSt} {S S2 : SSt} (k : FI X S) (k2 : SSI S2) (hd : ∀ i, i < 3 → -262144 ≤ S2.D i - S.D i ∧ S2.D i - S.D i ≤ 262144) :
    FI (folB X (cmdF X.h X.f (tgD X S2.D))) S2 ∧ ∀ i, i < 3 → ownF X (folB X (cmdF X.h X.f (tgD X S2.D))).h i = S2.D i := by
  obtain ⟨_, hm⟩ := momG_eq k.b.q k.b.v k.b.t k.b.s
  have hw := k.w
  have hn := allocF_near (d := fun i => qbackF X.Q X.T i - S2.D i) (e := fun i => qbackF X.Q X.T i - S.D i) (f := X.f) (D := 262144) (by decide) (fun i hi => by have := hd i hi; show _ ≤ (_ - _) - (_ - _) ∧ (_ - _) - (_ - _) ≤ _; omega) hw
  have hP := allocF_bd (d := fun i => qbackF X.Q X.T i - S2.D i) (f := X.f) (m := 5242880) (by decide) (fun i hi => by have := (hm i hi).1; have := k2.d i hi; show _ ≤ _ - _ ∧ _ - _ ≤ _; omega) hw
  have hh : ∀ i, i < 4 → (folB X (cmdF X.h X.f (tgD X S2.D))).h i = tgD X S2.D i := fun i hi => by
    rw [fl_h]
    split
    · rename_i e
      have t : tgD X S2.D i = 0 := allocF_failed hi e
      rw [k.z i hi e, t]
    · rename_i e
      have c : cmdF X.h X.f (tgD X S2.D) i = cmdX (X.h i) (tgD X S2.D i) := by unfold cmdF; rw [if_neg e]
      have a1 := k.n i hi
      have a2 := hn i
      have a3 := hP i
      rw [c]
      exact stp_reach (k.b.s.b i hi) (by unfold tgD; omega) (by unfold tgD at a1 ⊢; omega)
  have kb : BI (folB X (cmdF X.h X.f (tgD X S2.D))) := k.b.tick _ _
  have hS := kb.s
  rw [fl_f] at hS
  generalize hY : folB X (cmdF X.h X.f (tgD X S2.D)) = Y at *
  have yf : Y.f = X.f := by rw [← hY, fl_f]
  have yQ : Y.Q = attG X.Q (momG X.Q X.T Y.h) := by rw [← hY]; exact fl_Q _ _
  have yT : ∀ i, i < 3 → Y.T i = X.T i := by rw [← hY]; exact fl_T k.b _
  obtain ⟨_, hm2⟩ := momG_eq k.b.q k.b.v k.b.t hS
  have own : ∀ i, i < 3 → momG X.Q X.T Y.h i = S2.D i := fun i hi => by
    have a := (hm2 i hi).2
    have b := allocF_sum (fun i => qbackF X.Q X.T i - S2.D i) X.f hi
    have c : sumW Y.h i = sumW (allocF (fun i => qbackF X.Q X.T i - S2.D i) X.f) i := by
      unfold sumW
      rw [hh i (by omega), hh 3 (by omega)]; rfl
    rw [a, c, b]
    show _ - (_ - _) = _
    omega
  refine ⟨⟨kb, k2, fun i hi e => ?_, fun i hi => ?_⟩, own⟩
  · rw [yf] at e
    rw [hh i hi]; exact allocF_failed hi e
  · have hb : ∀ i, i < 3 → -108000 ≤ qbackF Y.Q Y.T i - qbackF X.Q X.T i ∧ qbackF Y.Q Y.T i - qbackF X.Q X.T i ≤ 108000 := fun i hi => by
      rw [qback_congr _ yT, yQ]
      exact back_near k.b.q k.b.v k.b.t (fun i hi => by rw [own i hi]; have := k2.d i hi; omega) hi
    have ht := allocF_near (d := fun i => qbackF Y.Q Y.T i - S2.D i) (e := fun i => qbackF X.Q X.T i - S2.D i) (f := X.f) (D := 108000) (by decide) (fun i hi => by have := hb i hi; show _ ≤ (_ - _) - (_ - _) ∧ (_ - _) - (_ - _) ≤ _; omega) hw i
    rw [hh i hi]
    have e1 : tgD Y S2.D i = allocF (fun i => qbackF Y.Q Y.T i - S2.D i) X.f i := by unfold tgD; rw [yf]
    rw [e1]
    unfold tgD
    omega
end Go.Proofs.Ytjnocbjngojigaa
namespace Go.Proofs.Ytjnocbjngojigaa
open Go.RowKit PM Dt
theorem act_any (what : Int) (hw : what = 0 ∨ what = 1 ∨ what = 2) (X : BSt) (S : SSt) (sun tq : Nat → Int) (k : FI X S) (hs : senseOk (senseV X sun) = true) (hI : ∀ i, i < 4 → I64 (tq i)) (hv : validQ tq = true) :
    ∃ A To : Nat → Int, (∀ i, i < 3 → -1073741824 ≤ A i ∧ A i ≤ 1073741824) ∧ (∀ i, i < 3 → -4194304 ≤ To i ∧ To i ≤ 4194304) ∧ Hid ((what = 0 ∧ Hid (∀ w sb, blk w sb (ssc S) 56 → Calls Try.prog 22 #[.pointer (some ⟨sb, 0, none⟩), .agg (sec (senseV X sun))] w fun e w' => e = .returned (.tuple #[.agg (qfn (stC S (senseV X sun) To)), .int .i64 0]) ∧ Below w.heap.size (w.setRow sb (ssc (stX S (senseV X sun) A To))) w')) ∨ (what = 1 ∧ Hid (∀ w sb, blk w sb (ssc S) 56 → Calls Try.prog 24 #[.pointer (some ⟨sb, 0, none⟩), .agg (sec (senseV X sun))] w fun e w' => e = .returned (.tuple #[.agg (qfn (stC S (senseV X sun) To)), .int .i64 0]) ∧ Below w.heap.size (w.setRow sb (ssc (stX S (senseV X sun) A To))) w')) ∨ (what = 2 ∧ Hid (∀ w sb, blk w sb (ssc S) 56 → Calls Try.prog 23 #[.pointer (some ⟨sb, 0, none⟩), .agg (sec (senseV X sun)), .agg (qfn tq)] w fun e w' => e = .returned (.tuple #[.agg (qfn (stC S (senseV X sun) To)), .int .i64 0]) ∧ Below w.heap.size (w.setRow sb (ssc (stX S (senseV X sun) A To))) w'))) := by
  rcases hw with rfl | rfl | rfl
  · refine ⟨fun _ => 0, fun _ => 0, z3, fun i hi => z0 (by decide), ?_⟩
    exact .inl ⟨rfl, fun w sb g => (trest_ok S (senseV X sun) sb w g hs k.s.d).mono fun e w' ⟨he, hb, h⟩ => ⟨he, h.toRow g hb⟩⟩
  · refine ⟨sunAx S (senseV X sun), sunT S (senseV X sun), sunA_le k.s _, sunT_le k.s _, ?_⟩
    exact .inr (.inl ⟨rfl, fun w sb g => (tsun_ok S (senseV X sun) sb w g hs k.s.d (fun i hi => by have := sunT_le k.s (senseV X sun) i hi; omega)).mono fun e w' ⟨he, hb, h⟩ => ⟨he, h.toRow g hb⟩⟩)
  · have hE : betE (senseV X sun).att tq = 0 := by
      unfold betE
      rw [if_pos (by rw [show validQ (senseV X sun).att = true from k.b.v, hv]; rfl)]
    refine ⟨fun _ => 0, ptTo (betF (senseV X sun).att tq), z3, ptTo_le _, ?_⟩
    exact .inr (.inr ⟨rfl, fun w sb g => (tpoint_ok S (senseV X sun) tq sb w g k.b.q hI hs k.s.d hE (bet_le k.b.q hI) (fun i hi => by have := ptTo_le (betF (senseV X sun).att tq) i hi; omega)).mono fun e w' ⟨he, hb, h⟩ => ⟨he, h.toRow g hb⟩⟩)
theorem tickF_any (what : Int) (hw : what = 0 ∨ what = 1 ∨ what = 2) (X : BSt) (S : SSt) (sun tq : Nat → Int) (k : FI X S) (hs : senseOk (senseV X sun) = true) (hI : ∀ i, i < 4 → I64 (tq i)) (hv : validQ tq = true) :
    ∃ X2 S2, FI X2 S2 ∧ ∀ lo hi lb w, lop lo hi lb w (X, S, sun) → Calls Try.prog 50 #[.pointer (some ⟨lb, 0, none⟩), .int .i64 what, .agg (qfn tq)] w fun e w' => e = .returned (.tuple #[.agg (vfn S2.D), .bool true]) ∧ lop lo hi lb w' (X2, S2, sun) ∧ Save lo hi w w' := by
  obtain ⟨A, To, hA, hT, act⟩ := act_any what hw X S sun tq k hs hI hv
  have k2 : SSI (stX S (senseV X sun) A To) := k.s.step _ hA hT
  have hD := fun i hi => stD_bd k.s (arrB S (senseV X sun)) hT (i := i) hi
  have e1 : (stX S (senseV X sun) A To).D = stD (arrB S (senseV X sun)) S To := rfl
  have e2 := fol_cmd k sun To fun i hi => (hD i hi).1
  rw [← e1] at e2
  obtain ⟨kn, own⟩ := fol_tick k k2 (fun i hi => (hD i hi).2)
  rw [← e2] at kn own
  refine ⟨_, _, kn, fun lo hi lb w ho => ?_⟩
  have hS : SI (folB X (stC S (senseV X sun) To)).h (folB X (stC S (senseV X sun) To)).f := kn.b.s
  have hS2 := hS
  rw [fl_f] at hS2
  obtain ⟨_, hm⟩ := momG_eq k.b.q k.b.v k.b.t hS2
  have hE : vsubE (qbackF X.Q X.T) (sumW (folB X (stC S (senseV X sun) To)).h) = 0 := by
    have o1 : okV (qbackF X.Q X.T) = true := (okV_iff _).2 fun i hi => (vb_iff _).2 (by have a := (hm i hi).1; omega)
    have o2 : okV (sumW (folB X (stC S (senseV X sun) To)).h) = true := (okV_iff _).2 fun i hi => (vb_iff _).2 (by have a := sumW_bd hS2 hi; omega)
    have o3 : okV (subF (qbackF X.Q X.T) (sumW (folB X (stC S (senseV X sun) To)).h)) = true := (okV_iff _).2 fun i hi => (vb_iff _).2 (by
      have a := (hm i hi).1
      have b := sumW_bd hS2 hi
      show -1099511627776 ≤ qbackF X.Q X.T i - sumW (folB X (stC S (senseV X sun) To)).h i ∧ qbackF X.Q X.T i - sumW (folB X (stC S (senseV X sun) To)).h i ≤ 1099511627776
      omega)
    unfold vsubE resE
    rw [o1, o2, o3]; rfl
  rw [← vfn_congr own]
  exact tick_any what X S (stX S (senseV X sun) A To) sun tq (stC S (senseV X sun) To) lo hi lb w ho k.b act hE hS
end Go.Proofs.Ytjnocbjngojigaa
namespace Go.Proofs.Ytjnocbjngojigaa
open Go.RowKit PM Dt
end Go.Proofs.Ytjnocbjngojigaa
namespace Go.Proofs.Ytjnocbjngojigaa
open Go.RowKit PM Dt
theorem RI.made {X : BSt} (hQ : ∀ i, i < 4 → I64 (X.Q i)) (h : newOk X = true) : RI X SSt.zero := by
  have k := newOk_BI hQ h
  simp only [newOk, Bool.and_eq_true] at h
  exact ⟨k, ⟨fun i hi => z0 (N := 4194304) (by decide), fun i hi => z0 (N := 1073741824) (by decide)⟩, (newB_SI h.1).2, fun i hi => rfl⟩
set_option maxRecDepth 100000 in
set_option maxHeartbeats 4000000 in
theorem made26_no (x : BSt) (sun : Nat → Int) (w : World) (hQ : ∀ i, i < 4 → I64 (x.Q i)) (hk : newOk x = false) : Calls Try.prog 48 #[.agg (rbc x), .agg (vfn sun)] w fun e w' => e = .returned (.tuple #[.pointer none, .bool false]) ∧ Below w.heap.size w w' := by
  have NB := Lib.hid (fun w => bnew_no x w hQ hk)
  clear hQ hk
  go_enter Try.func48, Try.ntmps48
  go_upto_region 1 with (fail)
  have v : blk ((w.alloc (.cells (rbc x) 89)).alloc (.cells (vfn sun) 25)) w.heap.size (rbc x) 89 := (blk.new _ _ _).alloc _
  have sn : blk ((w.alloc (.cells (rbc x) 89)).alloc (.cells (vfn sun) 25)) (w.heap.size + 1) (vfn sun) 25 := blk.new' (by simp)
  have hB : Below w.heap.size w ((w.alloc (.cells (rbc x) 89)).alloc (.cells (vfn sun) 25)) := by go_grown
  generalize ((w.alloc (.cells (rbc x) 89)).alloc (.cells (vfn sun) 25)) = w0 at *
  have lt_v := v.lt
  have lt_sn := sn.lt
  have hW0 : w.heap.size ≤ w0.heap.size := by simpa using hB.size
  apply wp_region_Q 14 [0, 1, 3, 7, 15, 31, 63, 127, 255, 511, 1023, 2047, 4095, 8191] [] [_, _, _, _, _, _, _, _, _, _, _, _, _, _] (fun p L w' => w0.heap.size ≤ w'.heap.size ∧ Below w.heap.size w w' ∧ blk w' w.heap.size (rbc x) 89 ∧ blk w' (w.heap.size + 1) (vfn sun) 25) _ [(0, 9), (1, 10), (2, 11), (3, 12), (4, 13), (5, 14), (6, 15), (7, 16), (8, 17), (9, 8), (10, 18), (11, 19), (12, 6), (13, 7)] [0, 1, 2, 3, 4, 5, 6, 7, 8, 9, 10, 11, 12, 13]
  case hn => rfl
  case hB => kernel_rfl
  case hds => kernel_rfl
  case hA => (intro p; simp only [putsD, Act.put, sIT, sCZ, sCS, List.getD_cons_zero, List.getD_cons_succ]; exact rfl)
  case h0 => exact fun p => ⟨Nat.le_refl _, hB, v, sn⟩
  case hmore => exact fun p L w1 w2 ⟨hsz, hB, v, sn⟩ hm => ⟨Nat.le_trans hsz hm.size, hB.trans (hm.mono (Nat.le_trans hW0 hsz)), v.below hm v.lt, sn.below hm sn.lt⟩
  case hs =>
    intro more
    refine stepV _ rfl rfl (fun _ _ _ h => h) (by intros; go_simp; exact ⟨rfl, rfl⟩) ?_
    refine stepV 1 rfl rfl (fun _ _ _ h => h) ?_ ?_
    · rintro p L w1 ⟨hsz, hB, v, sn⟩ hk
      exact valR_part _ _ rfl _ 0 rfl _ _ v (qfn x.Q) (rb_q x) _ Try.underlying23 rfl (by rw [qfn_size]; kernel_rfl) rfl
    refine stepV _ rfl rfl (fun _ _ _ h => h) (by intros; go_simp; exact ⟨rfl, rfl⟩) ?_
    refine stepV 3 rfl rfl (fun _ _ _ h => h) ?_ ?_
    · rintro p L w1 ⟨hsz, hB, v, sn⟩ hk
      exact valR_part _ _ rfl _ 4 rfl _ _ v (vfn x.T) (rb_t x) _ Try.underlying25 rfl (by rw [vfn_size]; kernel_rfl) rfl
    refine stepV _ rfl rfl (fun _ _ _ h => h) (by intros; go_simp; exact ⟨rfl, rfl⟩) ?_
    refine stepV 5 rfl rfl (fun _ _ _ h => h) ?_ ?_
    · rintro p L w1 ⟨hsz, hB, v, sn⟩ hk
      exact valR_part _ _ rfl _ 7 rfl _ _ v (qfn x.h) (rb_h x) _ Try.underlying22 rfl (by rw [qfn_size]; kernel_rfl) rfl
    refine stepV _ rfl rfl (fun _ _ _ h => h) (by intros; go_simp; exact ⟨rfl, rfl⟩) ?_
    refine stepV 7 rfl rfl (fun _ _ _ h => h) ?_ ?_
    · rintro p L w1 ⟨hsz, hB, v, sn⟩ hk
      have hc : w1.cell? ⟨w.heap.size, 11, none⟩ = some (.int .i64 x.f) := v.cellIs rfl
      go_simp
      exact ⟨rfl, rfl⟩
    refine stepD 8 rfl (fun p => rfl) (fun _ _ _ h => h) more ?_ ?_
    · rintro p L w1 ⟨hsz, hB, v, sn⟩ hk
      go_simp
      refine (NB.out _).mono ?_
      rintro e w2 ⟨rfl, h2⟩
      first | exact ⟨rfl, h2⟩ | (subst h2; exact ⟨rfl, Below.refl _ _⟩)
    iterate 5 (refine stepV _ rfl rfl (fun _ _ _ h => h) (by intros; go_simp; exact ⟨rfl, rfl⟩) ?_)
    exact AllI.nil
  case hV0 => exact fun p q => AllI.nil
  case he =>
  clear hB v sn
  rintro p w0r ⟨hsz, hB, v, sn⟩
  clear lt_v lt_sn hsz hW0
  go_wp2_with (fail)
  go_ret2
  exact ⟨rfl, hB⟩
set_option maxRecDepth 100000 in
set_option maxHeartbeats 8000000 in
theorem made26_yes (x : BSt) (sun : Nat → Int) (w : World) (hQ : ∀ i, i < 4 → I64 (x.Q i)) (hk : newOk x = true) : Calls Try.prog 48 #[.agg (rbc x), .agg (vfn sun)] w fun e w' => ∃ lo hi b, e = .returned (.tuple #[.pointer (some ⟨b, 0, none⟩), .bool true]) ∧ w.heap.size ≤ lo ∧ lop lo hi b w' (x, SSt.zero, sun) ∧ Below w.heap.size w w' := by
  have NB := Lib.hid (fun w => bnew_yes x w hQ hk)
  have NW := Lib.hid (fun w => tnew_any w)
  clear hQ hk
  go_enter Try.func48, Try.ntmps48
  go_upto_region 1 with (fail)
  have v : blk ((w.alloc (.cells (rbc x) 89)).alloc (.cells (vfn sun) 25)) w.heap.size (rbc x) 89 := (blk.new _ _ _).alloc _
  have sn : blk ((w.alloc (.cells (rbc x) 89)).alloc (.cells (vfn sun) 25)) (w.heap.size + 1) (vfn sun) 25 := blk.new' (by simp)
  have hB : Below w.heap.size w ((w.alloc (.cells (rbc x) 89)).alloc (.cells (vfn sun) 25)) := by go_grown
  generalize ((w.alloc (.cells (rbc x) 89)).alloc (.cells (vfn sun) 25)) = w0 at *
  have cf : w0.cell? ⟨w.heap.size, 11, none⟩ = some (.int .i64 x.f) := v.cellIs rfl
  have hlo := hB.size
  go_upto_region 2 with (first | (refine wpList_load_part ?hw _ _ rfl _ 0 rfl _ _ v (qfn x.Q) (rb_q x) _ Try.underlying23 rfl ?hi ?_; (case hw => (first | rfl | (simp [Region.wanted, yielded]; done))); (case hi => (rw [qfn_size]; kernel_rfl))) | (refine wpList_load_part ?hw _ _ rfl _ 4 rfl _ _ v (vfn x.T) (rb_t x) _ Try.underlying25 rfl ?hi ?_; (case hw => (first | rfl | (simp [Region.wanted, yielded]; done))); (case hi => (rw [vfn_size]; kernel_rfl))) | (refine wpList_load_part ?hw _ _ rfl _ 7 rfl _ _ v (qfn x.h) (rb_h x) _ Try.underlying22 rfl ?hi ?_; (case hw => (first | rfl | (simp [Region.wanted, yielded]; done))); (case hi => (rw [qfn_size]; kernel_rfl))) | (go_at_call 32; with_reducible refine (NB.out _).mono ?_; rintro e w1 ⟨ob, rfl, o, hb⟩; replace hB := hB.trans (hb.mono hB.size); replace v := v.below hb v.lt; replace sn := sn.below hb sn.lt; clear hb))
  clear NB cf v
  go_upto_region 4 with (fail)
  have lt_sn := sn.lt
  have lt_o := o.lt
  have hW0 : w.heap.size ≤ w1.heap.size := by simpa using hB.size
  apply wp_region_I 7 [0, 0, 0, 7, 15, 31, 63] [1, 4] [_, (fun p => ((fun b => .pointer (some ⟨b, 0, none⟩))) (p 1)), _, _, (fun p => ((fun b => .pointer (some ⟨b, 0, none⟩))) (p 4)), _, _] (fun p L w' => w1.heap.size ≤ w'.heap.size ∧ Below w.heap.size w w' ∧ blk w' (w.heap.size + 1) (vfn sun) 25 ∧ bod w0.heap.size ob w' (x) ∧ (L 1 = true → w1.heap.size ≤ p 1 ∧ blk w' (p 1) (ssc SSt.zero) 56) ∧ (L 4 = true → w1.heap.size ≤ p 4 ∧ blk w' (p 4) (lpc (ob, p 1, sun)) 94) ∧ (L 1 = true → L 4 = true → p 1 ≠ p 4)) _ [(0, 22), (1, 23), (2, 24), (3, 25), (4, 26), (5, 4), (6, 5)] [0, 1, 2, 3, 4, 5, 6]
  case hn => rfl
  case hm => kernel_rfl
  case hB => kernel_rfl
  case hds => kernel_rfl
  case hA => (intro p; simp only [putsD, Act.put, sIT, sCZ, sCS, List.getD_cons_zero, List.getD_cons_succ]; exact rfl)
  case h0 => exact fun p => ⟨Nat.le_refl _, hB.drew, sn.drew, o.drew, fun h => absurd h (by decide), fun h => absurd h (by decide), fun h => absurd h (by decide)⟩
  case hmore => exact fun p L w1 w2 ⟨hsz, hB, sn, o, h_st, h_l, hne_st_l⟩ hm => ⟨Nat.le_trans hsz hm.size, hB.trans (hm.mono (Nat.le_trans hW0 hsz)), sn.below hm sn.lt, o.below hm o.lt, fun hl => ⟨(h_st hl).1, (h_st hl).2.below hm (h_st hl).2.lt⟩, fun hl => ⟨(h_l hl).1, (h_l hl).2.below hm (h_l hl).2.lt⟩, hne_st_l⟩
  case hs =>
    intro more
    refine stepV _ rfl rfl (fun _ _ _ h => h) (by intros; go_simp; exact ⟨rfl, rfl⟩) ?_
    refine AllI.cons ?_ ?_
    · refine stepI_new 1 rfl (fun p => rfl) rfl ((fun b => .pointer (some ⟨b, 0, none⟩))) (ssc SSt.zero) 56 (fun p => rfl) ?_ ?_
      · rintro p L w1 ⟨hsz, hB, sn, o, h_st, h_l, hne_st_l⟩ hk
        go_simp
        refine (NW.out _).mono ?_
        rintro e w2 ⟨b, rfl, hb, hle, hm⟩
        exact ⟨_, rfl, b, rfl, hb, hle, hm⟩
      rintro p L w1 w2 b ⟨hsz, hB, sn, o, h_st, h_l, hne_st_l⟩ hk hb hle hm
      refine ⟨Nat.le_trans hsz hm.size, hB.trans (hm.mono (Nat.le_trans hW0 hsz)), sn.below hm sn.lt, o.below hm o.lt, fun _ => ⟨Nat.le_trans hsz hle, ?_⟩, fun hl => absurd hl (by rw [show upL L 1 4 = false from hk.2.2 4 rfl]; decide), fun _ hl => absurd hl (by rw [show upL L 1 4 = false from hk.2.2 4 rfl]; decide)⟩
      exact hb
    refine stepV 2 rfl rfl (fun _ _ _ h => h) ?_ ?_
    · rintro p L w1 ⟨hsz, hB, sn, o, h_st, h_l, hne_st_l⟩ hk
      first | exact valR_row _ _ rfl _ rfl _ _ sn _ Try.underlying25 rfl (by first | kernel_rfl | (rw [vfn_size]; kernel_rfl)) rfl | (have hc := sn.cellIs (vfn_get _ (show 0 < 3 by omega)); go_simp; exact ⟨rfl, rfl⟩)
    refine stepV 3 rfl rfl (fun _ _ _ h => h) ?_ ?_
    · intros; (try simp only [vfn, qfn]); go_simp; exact ⟨rfl, rfl⟩
    refine AllI.cons ?_ ?_
    · refine stepI_fresh 4 rfl (fun p => rfl) rfl ((fun b => .pointer (some ⟨b, 0, none⟩))) (fun p => (lpc (ob, p 1, sun))) 94 (fun p => rfl) ?_ ?_
      · intro p w1
        simp only [vfn, qfn]
        go_simp
        try rfl
      rintro p L w1 ⟨hsz, hB, sn, o, h_st, h_l, hne_st_l⟩ hk
      refine ⟨Nat.le_trans hsz (by simp), hB.alloc (Nat.le_trans (by first | exact hW0 | (have := hB.size; simp at this ⊢; omega)) hsz) _, sn.alloc _, o.alloc _, fun hl => ⟨(h_st hl).1, (h_st hl).2.alloc _⟩, fun _ => ⟨hsz, ?_⟩, fun hl _ => Nat.ne_of_lt (h_st hl).2.lt⟩
      exact blk.new _ _ _
    iterate 2 (refine stepV _ rfl rfl (fun _ _ _ h => h) (by intros; go_simp; exact ⟨rfl, rfl⟩) ?_)
    exact AllI.nil
  case hV0 =>
    intro p q
    refine AllI.cons ?_ ?_
    · skip
      iterate 7 (refine AllI.cons (by first | exact .inl rfl | (refine .inr ?_; simp only [List.getD_cons_zero, List.getD_cons_succ]; done) | exact .inr rfl) ?_)
      exact AllI.nil
    refine AllI.cons ?_ ?_
    · skip
      iterate 7 (refine AllI.cons (by first | exact .inl rfl | (refine .inr ?_; simp only [List.getD_cons_zero, List.getD_cons_succ]; done) | exact .inr rfl) ?_)
      exact AllI.nil
    exact AllI.nil
  case he =>
  clear hB sn o
  rintro p w1r ⟨hsz, hB, sn, o, h_st, h_l, hne_st_l⟩
  obtain ⟨le_st, st⟩ := h_st rfl
  clear h_st
  obtain ⟨le_l, l⟩ := h_l rfl
  clear h_l
  have ne_st_l : p 1 ≠ p 4 := hne_st_l rfl rfl
  clear hne_st_l
  replace st : blk w1r (p 1) (ssc SSt.zero) 56 := st
  replace l : blk w1r (p 4) (lpc (ob, p 1, sun)) 94 := l
  have ne_sn_st : (w.heap.size + 1) ≠ p 1 := Nat.ne_of_lt (Nat.lt_of_lt_of_le lt_sn le_st)
  have ne_o_st : ob ≠ p 1 := Nat.ne_of_lt (Nat.lt_of_lt_of_le lt_o le_st)
  have ge_st : w.heap.size ≤ p 1 := Nat.le_trans hW0 le_st
  have out_st : ob < p 1 := Nat.lt_of_lt_of_le lt_o le_st
  have ne_sn_l : (w.heap.size + 1) ≠ p 4 := Nat.ne_of_lt (Nat.lt_of_lt_of_le lt_sn le_l)
  have ne_o_l : ob ≠ p 4 := Nat.ne_of_lt (Nat.lt_of_lt_of_le lt_o le_l)
  have ge_l : w.heap.size ≤ p 4 := Nat.le_trans hW0 le_l
  have out_l : ob < p 4 := Nat.lt_of_lt_of_le lt_o le_l
  generalize p 1 = st_b at *
  generalize p 4 = l_b at *
  clear lt_sn lt_o hsz hW0
  go_wp2_with (fail)
  go_ret2
  have lt1 := st.lt
  have lt2 := l.lt
  exact ⟨_, _, _, rfl, hlo, ⟨ob, st_b, out_st, out_l, ne_st_l, Nat.le_sub_one_of_lt lt1, Nat.le_sub_one_of_lt lt2, by omega, o, st, l⟩, hB⟩
end Go.Proofs.Ytjnocbjngojigaa
namespace Go.Proofs.Ytjnocbjngojigaa
open Go.RowKit PM Dt
theorem tickR_ri (X : BSt) (S : SSt) (sun tq : Nat → Int) (lo hi lb : Nat) (w : World) (ho : lop lo hi lb w (X, S, sun)) (k : RI X S) (hs : senseOk (senseV X sun) = true) : Calls Try.prog 50 #[.pointer (some ⟨lb, 0, none⟩), .int .i64 0, .agg (qfn tq)] w fun e w' => e = .returned (.tuple #[.agg (vfn (ownF X (rtB X S sun).h)), .bool true]) ∧ lop lo hi lb w' (rtB X S sun, restX S (senseV X sun), sun) ∧ Save lo hi w w' := by
  have k' := k.tick hs
  have hS := k'.b.s
  have hS2 := hS
  rw [rt_f k hs] at hS2
  obtain ⟨_, hm⟩ := momG_eq k.b.q k.b.v k.b.t hS2
  have hE : vsubE (qbackF X.Q X.T) (sumW (rtB X S sun).h) = 0 := by
    have o1 : okV (qbackF X.Q X.T) = true := (okV_iff _).2 fun i hi => (vb_iff _).2 (by have a := (hm i hi).1; omega)
    have o2 : okV (sumW (rtB X S sun).h) = true := (okV_iff _).2 fun i hi => (vb_iff _).2 (by have a := sumW_bd hS2 hi; omega)
    have o3 : okV (subF (qbackF X.Q X.T) (sumW (rtB X S sun).h)) = true := (okV_iff _).2 fun i hi => (vb_iff _).2 (by
      have a := (hm i hi).1
      have b := sumW_bd hS2 hi
      show -1099511627776 ≤ qbackF X.Q X.T i - sumW (rtB X S sun).h i ∧ qbackF X.Q X.T i - sumW (rtB X S sun).h i ≤ 1099511627776
      omega)
    unfold vsubE resE
    rw [o1, o2, o3]; rfl
  exact tickR_any X S sun tq lo hi lb w ho k.b k.s hs hE hS
set_option maxRecDepth 100000 in
set_option maxHeartbeats 8000000 in
theorem rested_any (X0 : BSt) (S0 : SSt) (sun : Nat → Int) (lo hi lb : Nat) (w : World) (ho : lop lo hi lb w (X0, S0, sun)) (k0 : RI X0 S0) (h1 : ∀ i, i < 3 → -1073741824 ≤ sun i ∧ sun i ≤ 1073741824) (h2 : vv sun ≤ 1073741828 * 1073741828) : Calls Try.prog 49 #[.pointer (some ⟨lb, 0, none⟩)] w fun e w' => e = .returned (.bool true) ∧ (∃ X S, RI X S ∧ Stage 40 X ∧ lop lo hi lb w' (X, S, sun)) ∧ Save lo hi w w' := by
  have TK : Hid (∀ w X S, lop lo hi lb w (X, S, sun) → RI X S → Calls Try.prog 50 #[.pointer (some ⟨lb, 0, none⟩), .int .i64 0, .agg #[.int .i64 0, .int .i64 0, .int .i64 0, .int .i64 0]] w fun e w' => e = .returned (.tuple #[.agg (vfn (ownF X (rtB X S sun).h)), .bool true]) ∧ lop lo hi lb w' (rtB X S sun, restX S (senseV X sun), sun) ∧ Save lo hi w w') := Lib.hid (fun w X S ho k => by
    rw [zero_quat]
    exact tickR_ri X S sun _ lo hi lb w ho k (sense_ok k h1 h2))
  have ST : ∀ n X S, RI X S → Stage n X → RI (rtB X S sun) (restX S (senseV X sun)) ∧ Stage (n + 1) (rtB X S sun) := fun n X S k h => ⟨k.tick (sense_ok k h1 h2), stage_step k (sense_ok k h1 h2) h⟩
  have MO := Lib.hid (fun w X S ob (h : bod lo ob w X) (k : RI X S) (hz : ∀ i, i < 3 → momF X i = 0) => (vfn_congr hz ▸ bmom_any X lo ob w h k.b.q k.b.s : Calls Try.prog 28 #[.pointer (some ⟨ob, 0, none⟩)] w fun e w' => e = .returned (.agg (vfn fun _ => 0)) ∧ Below w.heap.size w w'))
  have E0 : ∀ w, (Op.equalIn 10000 25 (.agg (vfn fun _ => 0)) (.agg #[.int .i64 0, .int .i64 0, .int .i64 0])).run Try.prog w = .ok true w := fun w => by rw [zero_vec]; exact vec_eq_self _ w
  have K0 := stage_zero k0
  have hB : Save lo hi w w := Save.refl _ _ _
  clear h1 h2
  go_enter Try.func49, Try.ntmps49
  go_wp2_with (fail)
  go_loopg [3] 40 (fun g_ iv wr => ∃ (k : Nat) (X : BSt) (S : SSt), g_ + k = 40 ∧ iv = .int .i64 k ∧ RI X S ∧ Stage k X ∧ lop lo hi lb wr (X, S, sun) ∧ Save lo hi w wr)
  case atStart => exact ⟨0, X0, S0, rfl, rfl, k0, K0, ho, hB⟩
  case round =>
    clear ho hB k0 K0
    obtain ⟨k, X, S, hk, rfl, kR, kS, l, hB⟩ := hrel
    by_cases hkn : k < 40
    · have hdk : decide ((k : Int) < 40) = true := decide_eq_true (by omega)
      have hdk' : decide (k < 40) = true := decide_eq_true (by omega)
      have hw3 : IntKind.i64.wrap ((k : Int) + 1) = ((k + 1 : Nat) : Int) := by rw [IntKind.wrap_i64]; omega
      go_upto_region 5 with (first | (go_at_call 50; with_reducible refine (TK.out _ _ _ l kR).mono ?_; rintro e w1 ⟨rfl, l2, hS⟩; replace hB := hB.next hS; clear hS) | (rw [zero_vec]; refine wpList_store_row rfl _ _ _ rfl _ rfl _ rfl _ _ (blk.new _ _ _) (by first | kernel_rfl | (rw [vfn_size]; kernel_rfl)) (by first | rfl | simp only [vfn_size]) (by first | exact vfn_one _ | rfl) ?_))
      replace l2 := (l2.alloc (.cells (vfn fun _ => 0) 25)).rowOther (.inr l2.lt) (vfn (ownF X (rtB X S sun).h))
      replace hB := (hB.alloc hB.size (.cells (vfn fun _ => 0) 25)).row (g := w1.heap.size) (.inr hB.size) (vfn (ownF X (rtB X S sun).h))
      generalize (w1.alloc (.cells (vfn fun _ => 0) 25)).setRow w1.heap.size (vfn (ownF X (rtB X S sun).h)) = w2 at *
      generalize w1.heap.size = cb at *
      clear l
      go_wp2_with (fail)
      go_roundg (40 - (k + 1))
      case rel =>
        obtain ⟨r1, r2⟩ := ST k X S kR kS
        exact ⟨k + 1, _, _, by omega, rfl, r1, r2, l2, hB⟩
      case measure => omega
    · obtain rfl : k = 40 := by omega
      have hz : ∀ i, i < 3 → momF X i = 0 := by
        rcases kS with ⟨q, _⟩ | ⟨_, q, _⟩ | ⟨_, _, q⟩
        · omega
        · omega
        · exact q
      obtain ⟨ob, sb, l1, l2, l3, l4, l5, l6, o, st, g⟩ := l
      have c0 : wr.cell? ⟨lb, 0, none⟩ = some (.pointer (some ⟨ob, 0, none⟩)) := g.cellIs rfl
      go_wp2_with (first | (go_at_call 28; with_reducible refine (MO.out _ X S ob o kR hz).mono ?_; rintro e w3 ⟨rfl, hb⟩; replace hB := hB.trans (hb.mono hB.size); replace o := o.below hb o.lt; replace st := st.below hb st.lt; replace g := g.below hb g.lt; replace l6 := Nat.lt_of_lt_of_le l6 hb.size; clear hb))
      go_ret
      exact ⟨rfl, ⟨X, S, kR, kS, ⟨ob, sb, l1, l2, l3, l4, l5, l6, o, st, g⟩⟩, hB⟩
end Go.Proofs.Ytjnocbjngojigaa
namespace Go.Proofs.Ytjnocbjngojigaa
open Go.RowKit PM Dt
end Go.Proofs.Ytjnocbjngojigaa
namespace Go.Proofs.Ytjnocbjngojigaa
open Go.RowKit PM Dt
def tunc (x : (Int × Int × (Nat → Int))) : Array Value := #[.int .u8 x.1, .int .u8 x.2.1, .int .i64 (x.2.2 0), .int .i64 (x.2.2 1), .int .i64 (x.2.2 2), .int .i64 (x.2.2 3)]
theorem tun_qL (y n : Int) (q : Nat → Int) (j : Nat) (hj : j < (qfn q).size) : (tunc (y, n, q)).toList[2 + j]? = (qfn q)[j]? := by
  rw [Array.getElem?_toList]
  rw [qfn_size] at hj
  rw [qfn_get q hj]
  rcases (show j = 0 ∨ j = 1 ∨ j = 2 ∨ j = 3 by omega) with rfl | rfl | rfl | rfl <;> rfl
theorem vun_vv {f : Nat → Int} (h : vunE f = 0) : vv (vunF f) ≤ 1073741828 * 1073741828 := by
  cases hk : okV f with
  | false => unfold vunE at h; rw [hk] at h; cases h
  | true =>
    cases hz : zV f with
    | true => unfold vunE at h; rw [hk, hz] at h; cases h
    | false =>
      obtain ⟨_, _, _, _, b⟩ := vun_core hk hz
      unfold vv; omega
set_option maxRecDepth 100000 in
set_option maxHeartbeats 8000000 in
theorem sfol_a (x : BSt) (sun : Nat → Int) (a : Option Addr) (n c : Nat) (w : World) (hQ : ∀ i, i < 4 → I64 (x.Q i)) (hI : ∀ i, i < 3 → I64 (sun i)) (hk : newOk x = false) : Calls Try.prog 14 #[.agg (rbc x), .agg (vfn sun), .slice a n c] w fun e w' => e = .returned (.bool true) ∧ Below w.heap.size w w' := by
  have UN := Lib.hid (fun w => vunit_any sun w hI)
  have MD := Lib.hid (fun w => made26_no x (vunF sun) w hQ hk)
  clear hQ hk hI
  generalize vunF sun = u at *
  generalize vunE sun = ue at *
  have AW := Lib.hid (fun w => awake26_any w)
  go_enter Try.func14, Try.ntmps14
  go_upto_region 1 with (fail)
  have v : blk ((w.alloc (.cells (rbc x) 89)).alloc (.cells (vfn sun) 25)) w.heap.size (rbc x) 89 := (blk.new _ _ _).alloc _
  have sv : blk ((w.alloc (.cells (rbc x) 89)).alloc (.cells (vfn sun) 25)) (w.heap.size + 1) (vfn sun) 25 := blk.new' (by simp)
  have hB : Below w.heap.size w ((w.alloc (.cells (rbc x) 89)).alloc (.cells (vfn sun) 25)) := by go_grown
  generalize ((w.alloc (.cells (rbc x) 89)).alloc (.cells (vfn sun) 25)) = w0 at *
  have lt_v := v.lt
  have lt_sv := sv.lt
  have hW0 : w.heap.size ≤ w0.heap.size := by simpa using hB.size
  apply wp_region_Q 8 [0, 1, 3, 7, 15, 31, 63, 127] [5] [_, _, _, _, _, (fun p => .pointer (some ⟨p 5, 0, none⟩)), (fun _ => undef), _] (fun p L w' => w0.heap.size ≤ w'.heap.size ∧ Below w.heap.size w w' ∧ blk w' w.heap.size (rbc x) 89 ∧ blk w' (w.heap.size + 1) (vfn sun) 25 ∧ (L 5 = true → w0.heap.size ≤ p 5 ∧ blk w' (p 5) (bif L 6 then (vfn u) else (vfn fun _ => 0)) 25)) _ [(0, 17), (1, 18), (2, 16), (3, 19), (4, 20), (5, 7), (7, 8)] [0, 1, 2, 3, 4, 5, 6, 7]
  case hn => rfl
  case hB => kernel_rfl
  case hds => kernel_rfl
  case hA => (intro p; simp only [putsD, Act.put, sIT, sCZ, sCS, List.getD_cons_zero, List.getD_cons_succ]; exact rfl)
  case h0 => exact fun p => ⟨Nat.le_refl _, hB, v, sv, fun h => absurd h (by decide)⟩
  case hmore => exact fun p L w1 w2 ⟨hsz, hB, v, sv, h_un⟩ hm => ⟨Nat.le_trans hsz hm.size, hB.trans (hm.mono (Nat.le_trans hW0 hsz)), v.below hm v.lt, sv.below hm sv.lt, fun hl => ⟨(h_un hl).1, (h_un hl).2.below hm (h_un hl).2.lt⟩⟩
  case hs =>
    intro more
    refine stepV 0 rfl rfl (fun _ _ _ h => h) ?_ ?_
    · rintro p L w1 ⟨hsz, hB, v, sv, h_un⟩ hk
      have L6 : L 6 = false := hk.2.2 6 rfl
      first | exact valR_row _ _ rfl _ rfl _ _ sv _ Try.underlying25 rfl (by first | kernel_rfl | (rw [vfn_size]; kernel_rfl)) rfl | (have hc := sv.cellIs (vfn_get _ (show 0 < 3 by omega)); go_simp; exact ⟨rfl, rfl⟩)
    refine stepD 1 rfl (fun p => rfl) (fun _ _ _ h => h) more ?_ ?_
    · rintro p L w1 ⟨hsz, hB, v, sv, h_un⟩ hk
      go_simp
      refine (UN.out _).mono ?_
      rintro e w2 ⟨rfl, h2⟩
      first | exact ⟨rfl, h2⟩ | (subst h2; exact ⟨rfl, Below.refl _ _⟩)
    iterate 3 (refine stepV _ rfl rfl (fun _ _ _ h => h) (by intros; go_simp; exact ⟨rfl, rfl⟩) ?_)
    refine AllI.cons ?_ ?_
    · refine stepI_alloc 5 rfl (fun p => rfl) rfl (vfn fun _ => 0) 25 (fun p => rfl) ?_ ?_
      · intro p w1
        go_simp
        first | rfl | rw [zero_vec]
      rintro p L w1 ⟨hsz, hB, v, sv, h_un⟩ hk
      have L6 : L 6 = false := hk.2.2 6 rfl
      refine ⟨Nat.le_trans hsz (by simp), hB.alloc (Nat.le_trans (by first | exact hW0 | (have := hB.size; simp at this ⊢; omega)) hsz) _, v.alloc _, sv.alloc _, fun _ => ⟨hsz, ?_⟩⟩
      rw [show upL L 5 6 = false from L6]
      exact blk.new _ _ _
    refine AllI.cons ?_ ?_
    · refine stepI_store 6 rfl (fun p => rfl) (fun p => rfl) _ _ _ rfl (fun p => p 5) 0 (fun p => rfl) (fun p => (vfn u)) (fun p => rfl) (fun p => (vfn fun _ => 0)) (fun p => (vfn u)) 25 (fun p => over_v _ _) (fun p => by first | (rw [vfn_size, vfn_size]; decide) | simp [vfn_size, vfn_size]) (fun p => by rw [vfn_size]; kernel_rfl) (fun p => vfn_one _) ?_ ?_
      · rintro p L w1 ⟨hsz, hB, v, sv, h_un⟩ hk
        have L6 : L 6 = false := hk.1
        have hh := (h_un (hk.2.1 5 rfl)).2
        rw [L6] at hh
        try simp only [cond_true, cond_false] at hh
        exact hh
      · rintro p L w1 ⟨hsz, hB, v, sv, h_un⟩ hk
        have L6 : L 6 = false := hk.1
        skip
        have hp := h_un (hk.2.1 5 rfl)
        refine ⟨(by simpa using hsz), Below.setRow hB (by first | exact Nat.le_trans hW0 hp.1 | exact ge_un | omega | (have := hB.size; simp at this ⊢; omega)) _, v.rowOther (by first | exact Nat.ne_of_lt (Nat.lt_of_lt_of_le lt_v hp.1) | omega) _, sv.rowOther (by first | exact Nat.ne_of_lt (Nat.lt_of_lt_of_le lt_sv hp.1) | omega) _, fun _ => ⟨hp.1, ?_⟩⟩
        rw [show upL L 6 6 = true from rfl]
        exact hp.2.row _
    refine stepV _ rfl rfl (fun _ _ _ h => h) (by intros; go_simp; exact ⟨rfl, rfl⟩) ?_
    exact AllI.nil
  case hV0 =>
    intro p q
    refine AllI.cons ?_ ?_
    · skip
      iterate 8 (refine AllI.cons (by first | exact .inl rfl | (refine .inr ?_; simp only [List.getD_cons_zero, List.getD_cons_succ]; done) | exact .inr rfl) ?_)
      exact AllI.nil
    exact AllI.nil
  case he =>
  clear hB v sv
  rintro p w0r ⟨hsz, hB, v, sv, h_un⟩
  obtain ⟨le_un, un⟩ := h_un rfl
  clear h_un
  replace un : blk w0r (p 5) (vfn u) 25 := un
  have ne_v_un : w.heap.size ≠ p 5 := Nat.ne_of_lt (Nat.lt_of_lt_of_le lt_v le_un)
  have ne_sv_un : (w.heap.size + 1) ≠ p 5 := Nat.ne_of_lt (Nat.lt_of_lt_of_le lt_sv le_un)
  have ge_un : w.heap.size ≤ p 5 := Nat.le_trans hW0 le_un
  generalize p 5 = un_b at *
  clear lt_v lt_sv hsz hW0
  go_upto_region 2 with (fail)
  have lt_v := v.lt
  have lt_sv := sv.lt
  have lt_un := un.lt
  have hW0 : w.heap.size ≤ w0r.heap.size := by simpa using hB.size
  apply wp_region_Q 8 [0, 1, 3, 7, 15, 31, 63, 127] [] [_, _, _, _, _, _, _, _] (fun p L w' => w0r.heap.size ≤ w'.heap.size ∧ Below w.heap.size w w' ∧ blk w' w.heap.size (rbc x) 89 ∧ blk w' (w.heap.size + 1) (vfn sun) 25 ∧ blk w' un_b (vfn u) 25) _ [(0, 22), (1, 23), (2, 24), (3, 21), (4, 25), (5, 26), (6, 9), (7, 10)] [0, 1, 2, 3, 4, 5, 6, 7]
  case hn => rfl
  case hB => kernel_rfl
  case hds => kernel_rfl
  case hA => (intro p; simp only [putsD, Act.put, sIT, sCZ, sCS, List.getD_cons_zero, List.getD_cons_succ]; exact rfl)
  case h0 => exact fun p => ⟨Nat.le_refl _, hB, v, sv, un⟩
  case hmore => exact fun p L w1 w2 ⟨hsz, hB, v, sv, un⟩ hm => ⟨Nat.le_trans hsz hm.size, hB.trans (hm.mono (Nat.le_trans hW0 hsz)), v.below hm v.lt, sv.below hm sv.lt, un.below hm un.lt⟩
  case hs =>
    intro more
    refine stepV 0 rfl rfl (fun _ _ _ h => h) ?_ ?_
    · rintro p L w1 ⟨hsz, hB, v, sv, un⟩ hk
      first | exact valR_row _ _ rfl _ rfl _ _ v _ Try.underlying89 rfl (by first | kernel_rfl | (rw [rbc_size]; kernel_rfl)) rfl | (have hc := v.cellIs (show _[0]? = some _ from rfl); go_simp; exact ⟨rfl, rfl⟩)
    refine stepV 1 rfl rfl (fun _ _ _ h => h) ?_ ?_
    · rintro p L w1 ⟨hsz, hB, v, sv, un⟩ hk
      first | exact valR_row _ _ rfl _ rfl _ _ un _ Try.underlying25 rfl (by first | kernel_rfl | (rw [vfn_size]; kernel_rfl)) rfl | (have hc := un.cellIs (vfn_get _ (show 0 < 3 by omega)); go_simp; exact ⟨rfl, rfl⟩)
    refine stepD 2 rfl (fun p => rfl) (fun _ _ _ h => h) more ?_ ?_
    · rintro p L w1 ⟨hsz, hB, v, sv, un⟩ hk
      go_simp
      refine (MD.out _).mono ?_
      rintro e w2 ⟨rfl, h2⟩
      first | exact ⟨rfl, h2⟩ | (subst h2; exact ⟨rfl, Below.refl _ _⟩)
    iterate 5 (refine stepV _ rfl rfl (fun _ _ _ h => h) (by intros; go_simp; exact ⟨rfl, rfl⟩) ?_)
    exact AllI.nil
  case hV0 => exact fun p q => AllI.nil
  case he =>
  clear hB v sv un
  rintro p w0rr ⟨hsz, hB, v, sv, un⟩
  clear lt_v lt_sv lt_un hsz hW0
  go_wp2_with (first
    | (go_at_call 19; with_reducible refine (AW.out _).mono ?_; rintro e w9 ⟨rfl, hb⟩; replace hB := hB.trans (hb.mono hB.size); replace v := v.below hb v.lt; replace sv := sv.below hb sv.lt; replace un := un.below hb un.lt; clear hb))
  go_ret
  exact ⟨rfl, hB⟩
set_option maxRecDepth 100000 in
set_option maxHeartbeats 12000000 in
theorem sfol_b (x : BSt) (sun : Nat → Int) (a : Option Addr) (n c : Nat) (w : World) (hQ : ∀ i, i < 4 → I64 (x.Q i)) (hI : ∀ i, i < 3 → I64 (sun i)) (hk : newOk x = true) (hE : vunE sun = 2 ∨ vunE sun = 4 ∨ vunE sun = 0 ∧ 10 < n) : Calls Try.prog 14 #[.agg (rbc x), .agg (vfn sun), .slice a n c] w fun e w' => e = .returned (.bool true) ∧ Below w.heap.size w w' := by
  have UN := Lib.hid (fun w => vunit_any sun w hI)
  have MD := Lib.hid (fun w => made26_yes x (vunF sun) w hQ hk)
  clear hQ hk hI
  generalize vunF sun = u at *
  have AW := Lib.hid (fun w => awake26_any w)
  rcases hE with hE | hE | ⟨hE, hn⟩
  case' inr.inr =>
    have d1 : decide ((10 : Int) < (n : Int)) = true := decide_eq_true (by omega)
    have d2 : decide (10 < n) = true := decide_eq_true hn
  all_goals
    rw [hE] at UN
    clear hE
    go_enter Try.func14, Try.ntmps14
    go_upto_region 1 with (fail)
    have v : blk ((w.alloc (.cells (rbc x) 89)).alloc (.cells (vfn sun) 25)) w.heap.size (rbc x) 89 := (blk.new _ _ _).alloc _
    have sv : blk ((w.alloc (.cells (rbc x) 89)).alloc (.cells (vfn sun) 25)) (w.heap.size + 1) (vfn sun) 25 := blk.new' (by simp)
    have hB : Below w.heap.size w ((w.alloc (.cells (rbc x) 89)).alloc (.cells (vfn sun) 25)) := by go_grown
    generalize ((w.alloc (.cells (rbc x) 89)).alloc (.cells (vfn sun) 25)) = w0 at *
    have lt_v := v.lt
    have lt_sv := sv.lt
    have hW0 : w.heap.size ≤ w0.heap.size := by simpa using hB.size
    apply wp_region_Q 8 [0, 1, 3, 7, 15, 31, 63, 127] [5] [_, _, _, _, _, (fun p => .pointer (some ⟨p 5, 0, none⟩)), (fun _ => undef), _] (fun p L w' => w0.heap.size ≤ w'.heap.size ∧ Below w.heap.size w w' ∧ blk w' w.heap.size (rbc x) 89 ∧ blk w' (w.heap.size + 1) (vfn sun) 25 ∧ (L 5 = true → w0.heap.size ≤ p 5 ∧ blk w' (p 5) (bif L 6 then (vfn u) else (vfn fun _ => 0)) 25)) _ [(0, 17), (1, 18), (2, 16), (3, 19), (4, 20), (5, 7), (7, 8)] [0, 1, 2, 3, 4, 5, 6, 7]
    case hn => rfl
    case hB => kernel_rfl
    case hds => kernel_rfl
    case hA => (intro p; simp only [putsD, Act.put, sIT, sCZ, sCS, List.getD_cons_zero, List.getD_cons_succ]; exact rfl)
    case h0 => exact fun p => ⟨Nat.le_refl _, hB, v, sv, fun h => absurd h (by decide)⟩
    case hmore => exact fun p L w1 w2 ⟨hsz, hB, v, sv, h_un⟩ hm => ⟨Nat.le_trans hsz hm.size, hB.trans (hm.mono (Nat.le_trans hW0 hsz)), v.below hm v.lt, sv.below hm sv.lt, fun hl => ⟨(h_un hl).1, (h_un hl).2.below hm (h_un hl).2.lt⟩⟩
    case hs =>
      intro more
      refine stepV 0 rfl rfl (fun _ _ _ h => h) ?_ ?_
      · rintro p L w1 ⟨hsz, hB, v, sv, h_un⟩ hk
        have L6 : L 6 = false := hk.2.2 6 rfl
        first | exact valR_row _ _ rfl _ rfl _ _ sv _ Try.underlying25 rfl (by first | kernel_rfl | (rw [vfn_size]; kernel_rfl)) rfl | (have hc := sv.cellIs (vfn_get _ (show 0 < 3 by omega)); go_simp; exact ⟨rfl, rfl⟩)
      refine stepD 1 rfl (fun p => rfl) (fun _ _ _ h => h) more ?_ ?_
      · rintro p L w1 ⟨hsz, hB, v, sv, h_un⟩ hk
        go_simp
        refine (UN.out _).mono ?_
        rintro e w2 ⟨rfl, h2⟩
        first | exact ⟨rfl, h2⟩ | (subst h2; exact ⟨rfl, Below.refl _ _⟩)
      iterate 3 (refine stepV _ rfl rfl (fun _ _ _ h => h) (by intros; go_simp; exact ⟨rfl, rfl⟩) ?_)
      refine AllI.cons ?_ ?_
      · refine stepI_alloc 5 rfl (fun p => rfl) rfl (vfn fun _ => 0) 25 (fun p => rfl) ?_ ?_
        · intro p w1
          go_simp
          first | rfl | rw [zero_vec]
        rintro p L w1 ⟨hsz, hB, v, sv, h_un⟩ hk
        have L6 : L 6 = false := hk.2.2 6 rfl
        refine ⟨Nat.le_trans hsz (by simp), hB.alloc (Nat.le_trans (by first | exact hW0 | (have := hB.size; simp at this ⊢; omega)) hsz) _, v.alloc _, sv.alloc _, fun _ => ⟨hsz, ?_⟩⟩
        rw [show upL L 5 6 = false from L6]
        exact blk.new _ _ _
      refine AllI.cons ?_ ?_
      · refine stepI_store 6 rfl (fun p => rfl) (fun p => rfl) _ _ _ rfl (fun p => p 5) 0 (fun p => rfl) (fun p => (vfn u)) (fun p => rfl) (fun p => (vfn fun _ => 0)) (fun p => (vfn u)) 25 (fun p => over_v _ _) (fun p => by first | (rw [vfn_size, vfn_size]; decide) | simp [vfn_size, vfn_size]) (fun p => by rw [vfn_size]; kernel_rfl) (fun p => vfn_one _) ?_ ?_
        · rintro p L w1 ⟨hsz, hB, v, sv, h_un⟩ hk
          have L6 : L 6 = false := hk.1
          have hh := (h_un (hk.2.1 5 rfl)).2
          rw [L6] at hh
          try simp only [cond_true, cond_false] at hh
          exact hh
        · rintro p L w1 ⟨hsz, hB, v, sv, h_un⟩ hk
          have L6 : L 6 = false := hk.1
          skip
          have hp := h_un (hk.2.1 5 rfl)
          refine ⟨(by simpa using hsz), Below.setRow hB (by first | exact Nat.le_trans hW0 hp.1 | exact ge_un | omega | (have := hB.size; simp at this ⊢; omega)) _, v.rowOther (by first | exact Nat.ne_of_lt (Nat.lt_of_lt_of_le lt_v hp.1) | omega) _, sv.rowOther (by first | exact Nat.ne_of_lt (Nat.lt_of_lt_of_le lt_sv hp.1) | omega) _, fun _ => ⟨hp.1, ?_⟩⟩
          rw [show upL L 6 6 = true from rfl]
          exact hp.2.row _
      refine stepV _ rfl rfl (fun _ _ _ h => h) (by intros; go_simp; exact ⟨rfl, rfl⟩) ?_
      exact AllI.nil
    case hV0 =>
      intro p q
      refine AllI.cons ?_ ?_
      · skip
        iterate 8 (refine AllI.cons (by first | exact .inl rfl | (refine .inr ?_; simp only [List.getD_cons_zero, List.getD_cons_succ]; done) | exact .inr rfl) ?_)
        exact AllI.nil
      exact AllI.nil
    case he =>
    clear hB v sv
    rintro p w0r ⟨hsz, hB, v, sv, h_un⟩
    obtain ⟨le_un, un⟩ := h_un rfl
    clear h_un
    replace un : blk w0r (p 5) (vfn u) 25 := un
    have ne_v_un : w.heap.size ≠ p 5 := Nat.ne_of_lt (Nat.lt_of_lt_of_le lt_v le_un)
    have ne_sv_un : (w.heap.size + 1) ≠ p 5 := Nat.ne_of_lt (Nat.lt_of_lt_of_le lt_sv le_un)
    have ge_un : w.heap.size ≤ p 5 := Nat.le_trans hW0 le_un
    generalize p 5 = un_b at *
    clear lt_v lt_sv hsz hW0
    go_upto_region 2 with (fail)
    go_upto_region 3 with (first | (refine wpList_load_rowG ?hw _ _ rfl _ rfl _ _ _ _ v Try.underlying89 rfl ?hi ?_; (case hw => (first | rfl | (simp [Region.wanted, yielded]; done))); (case hi => (first | kernel_rfl | (rw [rbc_size]; kernel_rfl)))) | (refine wpList_load_rowG ?hw _ _ rfl _ rfl _ _ _ _ un Try.underlying25 rfl ?hi ?_; (case hw => (first | rfl | (simp [Region.wanted, yielded]; done))); (case hi => (first | kernel_rfl | (rw [vfn_size]; kernel_rfl)))) | (go_at_call 48; with_reducible refine (MD.out _).mono ?_; rintro e w1 ⟨lo, hi, lb, rfl, hle, l, hb⟩; replace hB := hB.trans (hb.mono hB.size); replace v := v.below hb v.lt; replace sv := sv.below hb sv.lt; replace un := un.below hb un.lt; clear hb))
    go_wp2_with (first
      | (go_at_call 19; with_reducible refine (AW.out _).mono ?_; rintro e w9 ⟨rfl, hb⟩; replace hB := hB.trans (hb.mono hB.size); replace v := v.below hb v.lt; replace sv := sv.below hb sv.lt; replace un := un.below hb un.lt; clear hb))
    go_ret
    exact ⟨rfl, hB⟩
set_option maxRecDepth 100000 in
set_option maxHeartbeats 40000000 in
theorem sfol_ok (x : BSt) (sun : Nat → Int) (a : Option Addr) (n c : Nat) (y : Nat → (Int × Int × (Nat → Int))) (w : World) (hQ : ∀ i, i < 4 → I64 (x.Q i)) (hI : ∀ i, i < 3 → I64 (sun i)) (hk : newOk x = true) (hE : vunE sun = 0) (hn : n ≤ 10) (el : ElemsA w a n 6 (fun k => (tunc (y k)).toList)) (hy : ∀ k, k < n → (0 ≤ (y k).1 ∧ (y k).1 ≤ 255) ∧ (0 ≤ (y k).2.1 ∧ (y k).2.1 ≤ 255) ∧ ∀ i, i < 4 → I64 ((y k).2.2 i)) : Calls Try.prog 14 #[.agg (rbc x), .agg (vfn sun), .slice a n c] w fun e w' => e = .returned (.bool true) ∧ Below w.heap.size w w' := by
  have UN := Lib.hid (fun w => vunit_any sun w hI)
  have MD := Lib.hid (fun w => made26_yes x (vunF sun) w hQ hk)
  have k0 := RI.made hQ hk
  have b1 := vun_le (f := sun)
  have b2 := vun_vv hE
  rw [hE] at UN
  clear hQ hk hI hE
  generalize vunF sun = u at *
  have RE := Lib.hid (fun w X S lo hi lb (h : lop lo hi lb w (X, S, u)) (k : RI X S) => rested_any X S u lo hi lb w h k b1 b2)
  have TK := Lib.hid (fun wh hw X S tq k hI hv => tickF_any wh hw X S u tq k (sense_ok (FI.ri (S := S) k) b1 b2) hI hv)
  have d1 : decide ((10 : Int) < (n : Int)) = false := decide_eq_false (by omega)
  have d2 : decide (10 < n) = false := decide_eq_false (by omega)
  replace el := Lib.hid el
  replace hy := Lib.hid hy
  clear b1 b2
  have AW := Lib.hid (fun w => awake26_any w)
  go_enter Try.func14, Try.ntmps14
  go_upto_region 1 with (fail)
  have v : blk ((w.alloc (.cells (rbc x) 89)).alloc (.cells (vfn sun) 25)) w.heap.size (rbc x) 89 := (blk.new _ _ _).alloc _
  have sv : blk ((w.alloc (.cells (rbc x) 89)).alloc (.cells (vfn sun) 25)) (w.heap.size + 1) (vfn sun) 25 := blk.new' (by simp)
  have hB : Below w.heap.size w ((w.alloc (.cells (rbc x) 89)).alloc (.cells (vfn sun) 25)) := by go_grown
  generalize ((w.alloc (.cells (rbc x) 89)).alloc (.cells (vfn sun) 25)) = w0 at *
  have lt_v := v.lt
  have lt_sv := sv.lt
  have hW0 : w.heap.size ≤ w0.heap.size := by simpa using hB.size
  apply wp_region_Q 8 [0, 1, 3, 7, 15, 31, 63, 127] [5] [_, _, _, _, _, (fun p => .pointer (some ⟨p 5, 0, none⟩)), (fun _ => undef), _] (fun p L w' => w0.heap.size ≤ w'.heap.size ∧ Below w.heap.size w w' ∧ blk w' w.heap.size (rbc x) 89 ∧ blk w' (w.heap.size + 1) (vfn sun) 25 ∧ (L 5 = true → w0.heap.size ≤ p 5 ∧ blk w' (p 5) (bif L 6 then (vfn u) else (vfn fun _ => 0)) 25)) _ [(0, 17), (1, 18), (2, 16), (3, 19), (4, 20), (5, 7), (7, 8)] [0, 1, 2, 3, 4, 5, 6, 7]
  case hn => rfl
  case hB => kernel_rfl
  case hds => kernel_rfl
  case hA => (intro p; simp only [putsD, Act.put, sIT, sCZ, sCS, List.getD_cons_zero, List.getD_cons_succ]; exact rfl)
  case h0 => exact fun p => ⟨Nat.le_refl _, hB, v, sv, fun h => absurd h (by decide)⟩
  case hmore => exact fun p L w1 w2 ⟨hsz, hB, v, sv, h_un⟩ hm => ⟨Nat.le_trans hsz hm.size, hB.trans (hm.mono (Nat.le_trans hW0 hsz)), v.below hm v.lt, sv.below hm sv.lt, fun hl => ⟨(h_un hl).1, (h_un hl).2.below hm (h_un hl).2.lt⟩⟩
  case hs =>
    intro more
    refine stepV 0 rfl rfl (fun _ _ _ h => h) ?_ ?_
    · rintro p L w1 ⟨hsz, hB, v, sv, h_un⟩ hk
      have L6 : L 6 = false := hk.2.2 6 rfl
      first | exact valR_row _ _ rfl _ rfl _ _ sv _ Try.underlying25 rfl (by first | kernel_rfl | (rw [vfn_size]; kernel_rfl)) rfl | (have hc := sv.cellIs (vfn_get _ (show 0 < 3 by omega)); go_simp; exact ⟨rfl, rfl⟩)
    refine stepD 1 rfl (fun p => rfl) (fun _ _ _ h => h) more ?_ ?_
    · rintro p L w1 ⟨hsz, hB, v, sv, h_un⟩ hk
      go_simp
      refine (UN.out _).mono ?_
      rintro e w2 ⟨rfl, h2⟩
      first | exact ⟨rfl, h2⟩ | (subst h2; exact ⟨rfl, Below.refl _ _⟩)
    iterate 3 (refine stepV _ rfl rfl (fun _ _ _ h => h) (by intros; go_simp; exact ⟨rfl, rfl⟩) ?_)
    refine AllI.cons ?_ ?_
    · refine stepI_alloc 5 rfl (fun p => rfl) rfl (vfn fun _ => 0) 25 (fun p => rfl) ?_ ?_
      · intro p w1
        go_simp
        first | rfl | rw [zero_vec]
      rintro p L w1 ⟨hsz, hB, v, sv, h_un⟩ hk
      have L6 : L 6 = false := hk.2.2 6 rfl
      refine ⟨Nat.le_trans hsz (by simp), hB.alloc (Nat.le_trans (by first | exact hW0 | (have := hB.size; simp at this ⊢; omega)) hsz) _, v.alloc _, sv.alloc _, fun _ => ⟨hsz, ?_⟩⟩
      rw [show upL L 5 6 = false from L6]
      exact blk.new _ _ _
    refine AllI.cons ?_ ?_
    · refine stepI_store 6 rfl (fun p => rfl) (fun p => rfl) _ _ _ rfl (fun p => p 5) 0 (fun p => rfl) (fun p => (vfn u)) (fun p => rfl) (fun p => (vfn fun _ => 0)) (fun p => (vfn u)) 25 (fun p => over_v _ _) (fun p => by first | (rw [vfn_size, vfn_size]; decide) | simp [vfn_size, vfn_size]) (fun p => by rw [vfn_size]; kernel_rfl) (fun p => vfn_one _) ?_ ?_
      · rintro p L w1 ⟨hsz, hB, v, sv, h_un⟩ hk
        have L6 : L 6 = false := hk.1
        have hh := (h_un (hk.2.1 5 rfl)).2
        rw [L6] at hh
        try simp only [cond_true, cond_false] at hh
        exact hh
      · rintro p L w1 ⟨hsz, hB, v, sv, h_un⟩ hk
        have L6 : L 6 = false := hk.1
        skip
        have hp := h_un (hk.2.1 5 rfl)
        refine ⟨(by simpa using hsz), Below.setRow hB (by first | exact Nat.le_trans hW0 hp.1 | exact ge_un | omega | (have := hB.size; simp at this ⊢; omega)) _, v.rowOther (by first | exact Nat.ne_of_lt (Nat.lt_of_lt_of_le lt_v hp.1) | omega) _, sv.rowOther (by first | exact Nat.ne_of_lt (Nat.lt_of_lt_of_le lt_sv hp.1) | omega) _, fun _ => ⟨hp.1, ?_⟩⟩
        rw [show upL L 6 6 = true from rfl]
        exact hp.2.row _
    refine stepV _ rfl rfl (fun _ _ _ h => h) (by intros; go_simp; exact ⟨rfl, rfl⟩) ?_
    exact AllI.nil
  case hV0 =>
    intro p q
    refine AllI.cons ?_ ?_
    · skip
      iterate 8 (refine AllI.cons (by first | exact .inl rfl | (refine .inr ?_; simp only [List.getD_cons_zero, List.getD_cons_succ]; done) | exact .inr rfl) ?_)
      exact AllI.nil
    exact AllI.nil
  case he =>
  clear hB v sv
  rintro p w0r ⟨hsz, hB, v, sv, h_un⟩
  obtain ⟨le_un, un⟩ := h_un rfl
  clear h_un
  replace un : blk w0r (p 5) (vfn u) 25 := un
  have ne_v_un : w.heap.size ≠ p 5 := Nat.ne_of_lt (Nat.lt_of_lt_of_le lt_v le_un)
  have ne_sv_un : (w.heap.size + 1) ≠ p 5 := Nat.ne_of_lt (Nat.lt_of_lt_of_le lt_sv le_un)
  have ge_un : w.heap.size ≤ p 5 := Nat.le_trans hW0 le_un
  generalize p 5 = un_b at *
  clear lt_v lt_sv hsz hW0
  go_upto_region 2 with (fail)
  have hlo := hB.size
  go_upto_region 3 with (first | (refine wpList_load_rowG ?hw _ _ rfl _ rfl _ _ _ _ v Try.underlying89 rfl ?hi ?_; (case hw => (first | rfl | (simp [Region.wanted, yielded]; done))); (case hi => (first | kernel_rfl | (rw [rbc_size]; kernel_rfl)))) | (refine wpList_load_rowG ?hw _ _ rfl _ rfl _ _ _ _ un Try.underlying25 rfl ?hi ?_; (case hw => (first | rfl | (simp [Region.wanted, yielded]; done))); (case hi => (first | kernel_rfl | (rw [vfn_size]; kernel_rfl)))) | (go_at_call 48; with_reducible refine (MD.out _).mono ?_; rintro e w1 ⟨lo, hi, lb, rfl, hle, l, hb⟩; replace hB := hB.trans (hb.mono hB.size); replace v := v.below hb v.lt; replace sv := sv.below hb sv.lt; replace un := un.below hb un.lt; clear hb))
  replace hlo : w.heap.size ≤ lo := Nat.le_trans hlo hle
  clear MD UN hle v un sv
  go_wp2_with (fail)
  clear d1 d2
  go_loopg [11] n (fun g_ iv wr => ∃ K : Nat, g_ + K = n ∧ iv = .int .i64 K ∧ (∀ j, j < K → validQ (y j).2.2 = true) ∧ lop lo hi lb wr (x, SSt.zero, u) ∧ Below w.heap.size w wr)
  case atStart => exact ⟨0, by omega, rfl, fun j hj => absurd hj (by omega), l, hB⟩
  case round =>
    clear l hB
    obtain ⟨K, hK, rfl, hV, l, hB⟩ := hrel
    by_cases hKn : K < n
    · have hdK : decide ((K : Int) < n) = true := decide_eq_true (by omega)
      have hdK' : decide (K < n) = true := decide_eq_true hKn
      have hk3 : (K : Int) < n := by omega
      have hk0 : (0 : Int) ≤ K := by omega
      have hwK : IntKind.i64.wrap ((K : Int) + 1) = ((K + 1 : Nat) : Int) := by rw [IntKind.wrap_i64]; omega
      obtain ⟨eb, eo, rfl, hEl, hE⟩ := el.out K hKn
      obtain ⟨hyw, hyn, hyq⟩ := hy.out K hKn
      replace hE : w.rangeAt eb (eo + K * 6) ((tunc (y K)).toList) := hE
      replace hV := Lib.hid hV
      replace RE := Lib.hid RE
      have VA := Lib.hid (fun w => qvalid_any (y K).2.2 w hyq)
      obtain ⟨q, hq⟩ : ∃ q, q = (y K).2.2 := ⟨_, rfl⟩
      obtain ⟨bv, hbv⟩ : ∃ bv, validQ q = bv := ⟨_, rfl⟩
      rw [← hq, hbv] at VA
      replace hE : w.rangeAt eb (eo + K * 6) ((tunc ((y K).1, (y K).2.1, q)).toList) := by rw [hq]; exact hE
      replace hq := Lib.hid hq
      replace hbv := Lib.hid hbv
      clear hyw hyn hyq
      generalize (y K).1 = yw at hE
      generalize (y K).2.1 = yn at hE
      go_upto_region 8 with (fail)
      have lt_l := l.lt
      have hW0 : w.heap.size ≤ wr.heap.size := by simpa using hB.size
      apply wp_region_Q 7 [0, 1, 3, 7, 15, 31, 63] [] [_, _, _, _, _, _, _] (fun p L w' => wr.heap.size ≤ w'.heap.size ∧ Below w.heap.size w w' ∧ lop lo hi lb w' ((x, SSt.zero, u))) _ [(0, 45), (1, 46), (2, 47), (3, 48), (4, 49), (5, 50), (6, 51)] [0, 1, 2, 3, 4, 5, 6]
      case hn => rfl
      case hB => kernel_rfl
      case hds => kernel_rfl
      case hA => (intro p; simp only [putsD, Act.put, sIT, sCZ, sCS, List.getD_cons_zero, List.getD_cons_succ]; exact rfl)
      case h0 => exact fun p => ⟨Nat.le_refl _, hB, l⟩
      case hmore => exact fun p L w1 w2 ⟨hsz, hB, l⟩ hm => ⟨Nat.le_trans hsz hm.size, hB.trans (hm.mono (Nat.le_trans hW0 hsz)), l.below hm l.lt⟩
      case hs =>
        intro more
        iterate 4 (refine stepV _ rfl rfl (fun _ _ _ h => h) (by intros; go_simp; exact ⟨rfl, rfl⟩) ?_)
        refine stepV 4 rfl rfl (fun _ _ _ h => h) ?_ ?_
        · rintro p L w1 ⟨hsz, hB, l⟩ hk
          have hr := range_below hE hB hEl
          exact valR_range _ _ rfl _ _ rfl _ (eo + K * 6) 2 hr (by first | rfl | omega) (qfn q) (tun_qL yw yn q) _ Try.underlying23 rfl (by rw [qfn_size]; kernel_rfl) rfl
        refine stepD 5 rfl (fun p => rfl) (fun _ _ _ h => h) more ?_ ?_
        · rintro p L w1 ⟨hsz, hB, l⟩ hk
          go_simp
          refine (VA.out _).mono ?_
          rintro e w2 ⟨rfl, h2⟩
          first | exact ⟨rfl, h2⟩ | (subst h2; exact ⟨rfl, Below.refl _ _⟩)
        refine stepV _ rfl rfl (fun _ _ _ h => h) (by intros; go_simp; exact ⟨rfl, rfl⟩) ?_
        exact AllI.nil
      case hV0 => exact fun p q => AllI.nil
      case he =>
      clear hB l
      rintro p wrr ⟨hsz, hB, l⟩
      clear lt_l hsz hW0 VA hE
      cases bv
      · go_wp2_with ((go_at_call 19; with_reducible refine (AW.out _).mono ?_; rintro e w9 ⟨rfl, hb⟩; replace hB := hB.trans (hb.mono hB.size)))
        go_ret
        exact ⟨rfl, hB⟩
      · go_wp2_with (fail)
        go_roundg (n - (K + 1))
        case rel => exact ⟨K + 1, by omega, rfl, fun j hj => (by
          rcases Nat.lt_succ_iff_lt_or_eq.1 hj with h | h
          · exact hV.out j h
          · subst h; rw [← hq.out]; exact hbv.out), l, hB⟩
        case measure => omega
    · obtain rfl : K = n := by omega
      have hdK : decide ((K : Int) < K) = false := decide_eq_false (by omega)
      have hdK' : decide (K < K) = false := decide_eq_false (by omega)
      replace hV := Lib.hid hV
      go_upto_region 12 with (first | (go_at_call 49; with_reducible refine (RE.out _ _ _ _ _ _ l k0).mono ?_; rintro e w2 ⟨rfl, ⟨X, S, kR, kS, l2⟩, hS⟩; replace hB := hB.trans (hS.below hB.size hlo); clear hS))
      clear RE l k0 hdK hdK'
      have kF := FI.of kR (n := 40) (by omega) kS
      clear kR kS
      replace l := l2
      clear l2
      go_wp2_with (fail)
      go_loopg [12] K (fun g_ iv wr => ∃ (J : Nat) (X : BSt) (S : SSt), g_ + J = K ∧ iv = .int .i64 J ∧ FI X S ∧ lop lo hi lb wr (X, S, u) ∧ Below w.heap.size w wr)
      case atStart => exact ⟨0, X, S, by omega, rfl, kF, l, hB⟩
      case round =>
        clear l hB kF X S
        obtain ⟨J, X, S, hJ, rfl, kF, l, hB⟩ := hrel
        by_cases hJn : J < K
        · have hdJ : decide ((J : Int) < K) = true := decide_eq_true (by omega)
          have hdJ' : decide (J < K) = true := decide_eq_true hJn
          have hk3 : (J : Int) < K := by omega
          have hk0 : (0 : Int) ≤ J := by omega
          have hwJ : IntKind.i64.wrap ((J : Int) + 1) = ((J + 1 : Nat) : Int) := by rw [IntKind.wrap_i64]; omega
          obtain ⟨eb, eo, rfl, hEl, hE⟩ := el.out J hJn
          obtain ⟨hyw, hyn, hyq⟩ := hy.out J hJn
          replace hE : w.rangeAt eb (eo + J * 6) ((tunc (y J)).toList) := hE
          have hvq := hV.out J hJn
          generalize y J = z at hE hyw hyn hyq hvq
          obtain ⟨yw, yn, q⟩ := z
          obtain ⟨m, hm⟩ : ∃ m : Nat, yn.tmod 50 = m := ⟨(yn.tmod 50).toNat, by have := Int.tmod_nonneg (a := yn) 50 hyn.1; omega⟩
          have hml : m < 50 := by have := Int.tmod_lt_of_pos yn (b := 50) (by decide); omega
          obtain ⟨wh, hwh⟩ : ∃ wh : Int, yw.tmod 3 = wh := ⟨_, rfl⟩
          have hw3 : wh = 0 ∨ wh = 1 ∨ wh = 2 := by
            have := Int.tmod_nonneg (a := yw) 3 hyw.1
            have := Int.tmod_lt_of_pos yw (b := 3) (by decide)
            omega
          have e1 : IntKind.i64.wrap (m : Int) = m := by rw [IntKind.wrap_i64]; omega
          have e2 : IntKind.i64.wrap wh = wh := by rw [IntKind.wrap_i64]; omega
          have TK2 := Lib.hid (fun X S k => TK.out wh hw3 X S q k hyq hvq)
          clear hyw hyn hyq hvq hw3
          go_wp2_with (fail)
          go_loopg [13] m (fun g_ iv wr => ∃ (k : Nat) (X : BSt) (S : SSt), g_ + k = m ∧ iv = .int .i64 k ∧ FI X S ∧ lop lo hi lb wr (X, S, u) ∧ Below w.heap.size w wr)
          case atStart => exact ⟨0, X, S, by omega, rfl, kF, l, hB⟩
          case round =>
            clear l hB kF X S
            obtain ⟨k, X, S, hk, rfl, kF, l, hB⟩ := hrel
            have hwk : IntKind.i64.wrap ((k : Int) + 1) = ((k + 1 : Nat) : Int) := by rw [IntKind.wrap_i64]; omega
            go_upto_region 16 with (fail)
            have lt_l := l.lt
            have hW0 : w.heap.size ≤ wr.heap.size := by simpa using hB.size
            apply wp_region_Q 9 [0, 1, 3, 7, 15, 31, 63, 127, 255] [] [_, _, _, _, _, _, _, _, _] (fun p L w' => wr.heap.size ≤ w'.heap.size ∧ Below w.heap.size w w' ∧ lop lo hi lb w' ((X, S, u))) _ [(0, 62), (1, 63), (2, 64), (3, 65), (4, 66), (5, 67), (6, 68), (7, 69), (8, 70)] [0, 1, 2, 3, 4, 5, 6, 7, 8]
            case hn => rfl
            case hB => kernel_rfl
            case hds => kernel_rfl
            case hA => (intro p; simp only [putsD, Act.put, sIT, sCZ, sCS, List.getD_cons_zero, List.getD_cons_succ]; exact rfl)
            case h0 => exact fun p => ⟨Nat.le_refl _, hB, l⟩
            case hmore => exact fun p L w1 w2 ⟨hsz, hB, l⟩ hm => ⟨Nat.le_trans hsz hm.size, hB.trans (hm.mono (Nat.le_trans hW0 hsz)), l.below hm l.lt⟩
            case hs =>
              intro more
              iterate 5 (refine stepV _ rfl rfl (fun _ _ _ h => h) (by intros; go_simp; exact ⟨rfl, rfl⟩) ?_)
              refine stepV 5 rfl rfl (fun _ _ _ h => h) ?_ ?_
              · rintro p L w1 ⟨hsz, hB, l⟩ hk
                have hr := range_below hE hB hEl
                have hc : w1.cell? ⟨eb, eo + J * 6 + 1, none⟩ = some (.int .u8 yn) := hr 1 _ rfl
                go_simp
                exact ⟨rfl, rfl⟩
              iterate 3 (refine stepV _ rfl rfl (fun _ _ _ h => h) (by intros; go_simp; exact ⟨rfl, rfl⟩) ?_)
              exact AllI.nil
            case hV0 => exact fun p q => AllI.nil
            case he =>
            clear hB l
            rintro p wrr ⟨hsz, hB, l⟩
            clear lt_l hsz hW0
            by_cases hkn : k < m
            · have hdk : decide ((k : Int) < m) = true := decide_eq_true (by omega)
              have hdk' : decide (k < m) = true := decide_eq_true hkn
              obtain ⟨X2, S2, kF2, TK3⟩ := TK2.out X S kF
              replace TK3 := Lib.hid TK3
              clear kF
              go_upto_region 18 with (fail)
              have lt_l := l.lt
              have hW0 : w.heap.size ≤ wrr.heap.size := by simpa using hB.size
              apply wp_region_I 20 [0, 0, 0, 6, 14, 30, 62, 126, 0, 0, 768, 1792, 3840, 8191, 16383, 32767, 32767, 0, 196607, 524287] [17] [_, _, _, _, _, _, _, _, _, _, _, _, _, _, _, _, _, (fun p => .pointer (some ⟨p 17, 0, none⟩)), (fun _ => undef), _] (fun p L w' => wrr.heap.size ≤ w'.heap.size ∧ Below w.heap.size w w' ∧ lop lo hi lb w' (bif L 13 then ((X2, S2, u)) else ((X, S, u))) ∧ (L 17 = true → wrr.heap.size ≤ p 17 ∧ blk w' (p 17) (bif L 18 then (vfn S2.D) else (vfn fun _ => 0)) 25)) _ [(0, 74), (1, 75), (2, 76), (3, 77), (4, 78), (5, 79), (6, 80), (7, 81), (8, 82), (9, 83), (10, 84), (11, 85), (12, 86), (13, 87), (14, 73), (15, 88), (16, 89), (17, 14), (19, 15)] [0, 1, 2, 3, 4, 5, 6, 7, 8, 9, 10, 11, 12, 13, 14, 15, 16, 17, 18, 19]
              case hn => rfl
              case hm => kernel_rfl
              case hB => kernel_rfl
              case hds => kernel_rfl
              case hA => (intro p; simp only [putsD, Act.put, sIT, sCZ, sCS, List.getD_cons_zero, List.getD_cons_succ]; exact rfl)
              case h0 => exact fun p => ⟨Nat.le_refl _, hB.drew, l.drew, fun h => absurd h (by decide)⟩
              case hmore => exact fun p L w1 w2 ⟨hsz, hB, l, h_ow⟩ hm => ⟨Nat.le_trans hsz hm.size, hB.trans (hm.mono (Nat.le_trans hW0 hsz)), l.below hm l.lt, fun hl => ⟨(h_ow hl).1, (h_ow hl).2.below hm (h_ow hl).2.lt⟩⟩
              case hs =>
                intro more
                iterate 5 (refine stepV _ rfl rfl (fun _ _ _ h => h) (by intros; go_simp; exact ⟨rfl, rfl⟩) ?_)
                refine stepV 5 rfl rfl (fun _ _ _ h => h) ?_ ?_
                · rintro p L w1 ⟨hsz, hB, l, h_ow⟩ hk
                  have hr := range_below hE hB hEl
                  have hc : w1.cell? ⟨eb, eo + J * 6, none⟩ = some (.int .u8 yw) := hr 0 _ rfl
                  go_simp
                  exact ⟨rfl, rfl⟩
                iterate 6 (refine stepV _ rfl rfl (fun _ _ _ h => h) (by intros; go_simp; exact ⟨rfl, rfl⟩) ?_)
                refine stepV 12 rfl rfl (fun _ _ _ h => h) ?_ ?_
                · rintro p L w1 ⟨hsz, hB, l, h_ow⟩ hk
                  have hr := range_below hE hB hEl
                  exact valR_range _ _ rfl _ _ rfl _ (eo + J * 6) 2 hr (by first | rfl | omega) (qfn q) (tun_qL yw yn q) _ Try.underlying23 rfl (by rw [qfn_size]; kernel_rfl) rfl
                refine AllI.cons ?_ ?_
                · refine stepI_rel 13 rfl (fun p => rfl) (fun p w1 w2 => lop lo hi lb w2 ((X2, S2, u)) ∧ Save lo hi w1 w2) ?_ ?_
                  · rintro p L w1 ⟨hsz, hB, l, h_ow⟩ hk
                    have L13 : L 13 = false := hk.1
                    have L18 : L 18 = false := hk.2.2 18 rfl
                    rw [L13] at l
                    try simp only [cond_true, cond_false] at l
                    go_simp
                    refine (TK3.out _ _ _ _ l).mono ?_
                    rintro e w2 ⟨rfl, h2, h3⟩
                    exact ⟨rfl, h2, h3⟩
                  · rintro p L w1 w2 ⟨hsz, hB, l, h_ow⟩ hk ⟨h2, h3⟩
                    have L13 : L 13 = false := hk.1
                    have L18 : L 18 = false := hk.2.2 18 rfl
                    refine ⟨Nat.le_trans hsz h3.size, hB.trans (h3.below (Nat.le_trans hW0 hsz) (by omega)), ?_, fun hl => ⟨(h_ow hl).1, (h_ow hl).2.save h3 (.inr (Nat.lt_of_lt_of_le lt_l (h_ow hl).1))⟩⟩
                    rw [show upL L 13 13 = true from rfl]
                    exact h2
                iterate 3 (refine stepV _ rfl rfl (fun _ _ _ h => h) (by intros; go_simp; exact ⟨rfl, rfl⟩) ?_)
                refine AllI.cons ?_ ?_
                · refine stepI_alloc 17 rfl (fun p => rfl) rfl (vfn fun _ => 0) 25 (fun p => rfl) ?_ ?_
                  · intro p w1
                    go_simp
                    first | rfl | rw [zero_vec]
                  rintro p L w1 ⟨hsz, hB, l, h_ow⟩ hk
                  have L18 : L 18 = false := hk.2.2 18 rfl
                  refine ⟨Nat.le_trans hsz (by simp), hB.alloc (Nat.le_trans (by first | exact hW0 | (have := hB.size; simp at this ⊢; omega)) hsz) _, l.alloc _, fun _ => ⟨hsz, ?_⟩⟩
                  rw [show upL L 17 18 = false from L18]
                  exact blk.new _ _ _
                refine AllI.cons ?_ ?_
                · refine stepI_store 18 rfl (fun p => rfl) (fun p => rfl) _ _ _ rfl (fun p => p 17) 0 (fun p => rfl) (fun p => (vfn S2.D)) (fun p => rfl) (fun p => (vfn fun _ => 0)) (fun p => (vfn S2.D)) 25 (fun p => over_v _ _) (fun p => by first | (rw [vfn_size, vfn_size]; decide) | simp [vfn_size, vfn_size]) (fun p => by rw [vfn_size]; kernel_rfl) (fun p => vfn_one _) ?_ ?_
                  · rintro p L w1 ⟨hsz, hB, l, h_ow⟩ hk
                    have L13 : L 13 = true := hk.2.1 13 rfl
                    have L18 : L 18 = false := hk.1
                    have hh := (h_ow (hk.2.1 17 rfl)).2
                    rw [L18] at hh
                    try simp only [cond_true, cond_false] at hh
                    exact hh
                  · rintro p L w1 ⟨hsz, hB, l, h_ow⟩ hk
                    have L13 : L 13 = true := hk.2.1 13 rfl
                    have L18 : L 18 = false := hk.1
                    skip
                    have hp := h_ow (hk.2.1 17 rfl)
                    refine ⟨(by simpa using hsz), Below.setRow hB (by first | exact Nat.le_trans hW0 hp.1 | exact ge_ow | omega | (have := hB.size; simp at this ⊢; omega)) _, l.rowOther (.inr (Nat.lt_of_lt_of_le lt_l hp.1)) _, fun _ => ⟨hp.1, ?_⟩⟩
                    rw [show upL L 18 18 = true from rfl]
                    exact hp.2.row _
                refine stepV _ rfl rfl (fun _ _ _ h => h) (by intros; go_simp; exact ⟨rfl, rfl⟩) ?_
                exact AllI.nil
              case hV0 =>
                intro p q
                refine AllI.cons ?_ ?_
                · skip
                  iterate 20 (refine AllI.cons (by first | exact .inl rfl | (refine .inr ?_; simp only [List.getD_cons_zero, List.getD_cons_succ]; done) | exact .inr rfl) ?_)
                  exact AllI.nil
                exact AllI.nil
              case he =>
              clear hB l
              rintro p wrrr ⟨hsz, hB, l, h_ow⟩
              obtain ⟨le_ow, ow⟩ := h_ow rfl
              clear h_ow
              replace l : lop lo hi lb wrrr ((X2, S2, u)) := l
              replace ow : blk wrrr (p 17) (vfn S2.D) 25 := ow
              have ne_l_ow : hi ≠ p 17 := Nat.ne_of_lt (Nat.lt_of_lt_of_le lt_l le_ow)
              have ge_ow : w.heap.size ≤ p 17 := Nat.le_trans hW0 le_ow
              have out_ow : hi < p 17 := Nat.lt_of_lt_of_le lt_l le_ow
              generalize p 17 = ow_b at *
              clear lt_l hsz hW0 TK3
              obtain ⟨ob, sb, l1, l2, l3, l4, l5, l6, o, st, g⟩ := l
              have CO := Lib.hid (fun w (g : blk w sb (ssc S2) 56) => tcmd_any S2 sb w g)
              have E0 := vec_eq_self S2.D
              go_upto_region 19 with (fail)
              have lt_ow := ow.lt
              have lt_o := o.lt
              have lt_st := st.lt
              have lt_g := g.lt
              have hW0 : w.heap.size ≤ wrrr.heap.size := by simpa using hB.size
              apply wp_region_I 11 [0, 1, 3, 7, 7, 23, 55, 119, 247, 511, 1023] [] [_, _, _, _, _, _, _, _, _, _, _] (fun p L w' => wrrr.heap.size ≤ w'.heap.size ∧ Below w.heap.size w w' ∧ blk w' ow_b (vfn S2.D) 25 ∧ bod lo ob w' (X2) ∧ blk w' sb (ssc S2) 56 ∧ blk w' lb (lpc (ob, sb, u)) 94) _ [(0, 90), (1, 91), (2, 92), (3, 93), (4, 94), (5, 95), (6, 96), (7, 97), (8, 98), (9, 99), (10, 100)] [0, 1, 2, 3, 4, 5, 6, 7, 8, 9, 10]
              case hn => rfl
              case hm => kernel_rfl
              case hB => kernel_rfl
              case hds => kernel_rfl
              case hA => (intro p; simp only [putsD, Act.put, sIT, sCZ, sCS, List.getD_cons_zero, List.getD_cons_succ]; exact rfl)
              case h0 => exact fun p => ⟨Nat.le_refl _, hB.drew, ow.drew, o.drew, st.drew, g.drew⟩
              case hmore => exact fun p L w1 w2 ⟨hsz, hB, ow, o, st, g⟩ hm => ⟨Nat.le_trans hsz hm.size, hB.trans (hm.mono (Nat.le_trans hW0 hsz)), ow.below hm ow.lt, o.below hm o.lt, st.below hm st.lt, g.below hm g.lt⟩
              case hs =>
                intro more
                iterate 3 (refine stepV _ rfl rfl (fun _ _ _ h => h) (by intros; go_simp; exact ⟨rfl, rfl⟩) ?_)
                refine stepVg 3 rfl (fun p => (by first | rfl | (simp [Region.wanted, yielded]; done))) (fun _ _ _ h => h) ?_ ?_
                · rintro p L w1 ⟨hsz, hB, ow, o, st, g⟩ hk
                  first | exact valR_row _ _ rfl _ rfl _ _ ow _ Try.underlying25 rfl (by first | kernel_rfl | (rw [vfn_size]; kernel_rfl)) rfl | (have hc := ow.cellIs (vfn_get _ (show 0 < 3 by omega)); go_simp; exact ⟨rfl, rfl⟩)
                iterate 3 (refine stepVg _ rfl (fun p => (by first | rfl | (simp [Region.wanted, yielded]; done))) (fun _ _ _ h => h) (by intros; go_simp; exact ⟨rfl, rfl⟩) ?_)
                refine stepVg 7 rfl (fun p => (by first | rfl | (simp [Region.wanted, yielded]; done))) (fun _ _ _ h => h) ?_ ?_
                · rintro p L w1 ⟨hsz, hB, ow, o, st, g⟩ hk
                  have hc : w1.cell? ⟨lb, 1, none⟩ = some (.pointer (some ⟨sb, 0, none⟩)) := g.cellIs rfl
                  go_simp
                  exact ⟨rfl, rfl⟩
                refine stepD 8 rfl (fun p => (by first | rfl | (simp [Region.wanted, yielded]; done))) (fun _ _ _ h => h) more ?_ ?_
                · rintro p L w1 ⟨hsz, hB, ow, o, st, g⟩ hk
                  go_simp
                  refine (CO.out _ st).mono ?_
                  rintro e w2 ⟨rfl, h2⟩
                  first | exact ⟨rfl, h2⟩ | (subst h2; exact ⟨rfl, Below.refl _ _⟩)
                refine stepVg _ rfl (fun p => (by first | rfl | (simp [Region.wanted, yielded]; done))) (fun _ _ _ h => h) (by intros; go_simp; exact ⟨rfl, rfl⟩) ?_
                refine stepV _ rfl rfl (fun _ _ _ h => h) (by intros; go_simp; exact ⟨rfl, rfl⟩) ?_
                exact AllI.nil
              case hV0 => exact fun p q => AllI.nil
              case he =>
              clear hB ow o st g
              rintro p wrrrr ⟨hsz, hB, ow, o, st, g⟩
              clear lt_ow lt_o lt_st lt_g hsz hW0
              have l : lop lo hi lb wrrrr (X2, S2, u) := ⟨ob, sb, l1, l2, l3, l4, l5, by have := ow.lt; omega, o, st, g⟩
              clear o st g ow CO E0
              go_wp2_with (fail)
              go_roundg (m - (k + 1))
              case rel => exact ⟨k + 1, X2, S2, by omega, rfl, kF2, l, hB⟩
              case measure => omega
            · obtain rfl : k = m := by omega
              have hdk : decide ((k : Int) < k) = false := decide_eq_false (by omega)
              have hdk' : decide (k < k) = false := decide_eq_false (by omega)
              go_wp2_with (fail)
              go_roundg (K - (J + 1))
              case rel => exact ⟨J + 1, X, S, by omega, rfl, kF, l, hB⟩
              case measure => omega
        · obtain rfl : J = K := by omega
          have hdJ : decide ((J : Int) < J) = false := decide_eq_false (by omega)
          have hdJ' : decide (J < J) = false := decide_eq_false (by omega)
          go_wp2_with (first
            | (go_at_call 19; with_reducible refine (AW.out _).mono ?_; rintro e w9 ⟨rfl, hb⟩; replace hB := hB.trans (hb.mono hB.size); clear hb))
          go_ret
          exact ⟨rfl, hB⟩
theorem sfol_any (x : BSt) (sun : Nat → Int) (a : Option Addr) (n c : Nat) (y : Nat → (Int × Int × (Nat → Int))) (w : World) (hQ : ∀ i, i < 4 → I64 (x.Q i)) (hI : ∀ i, i < 3 → I64 (sun i)) (el : ElemsA w a n 6 (fun k => (tunc (y k)).toList)) (hy : ∀ k, k < n → (0 ≤ (y k).1 ∧ (y k).1 ≤ 255) ∧ (0 ≤ (y k).2.1 ∧ (y k).2.1 ≤ 255) ∧ ∀ i, i < 4 → I64 ((y k).2.2 i)) : Calls Try.prog 14 #[.agg (rbc x), .agg (vfn sun), .slice a n c] w fun e w' => e = .returned (.bool true) ∧ Below w.heap.size w w' := by
  cases hk : newOk x with
  | false => exact sfol_a x sun a n c w hQ hI hk
  | true =>
    have h : vunE sun = 2 ∨ vunE sun = 4 ∨ vunE sun = 0 := by unfold vunE; cases okV sun <;> cases zV sun <;> simp
    by_cases hn : 10 < n
    · exact sfol_b x sun a n c w hQ hI hk (h.imp_right fun h => h.imp_right fun h => ⟨h, hn⟩)
    · rcases h with h | h | h
      · exact sfol_b x sun a n c w hQ hI hk (.inl h)
      · exact sfol_b x sun a n c w hQ hI hk (.inr (.inl h))
      · exact sfol_ok x sun a n c y w hQ hI hk h (by omega) el hy
end Go.Proofs.Ytjnocbjngojigaa
