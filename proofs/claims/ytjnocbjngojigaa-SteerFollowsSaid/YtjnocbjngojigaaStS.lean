/-
  Controls: what Sun wants.
-/
import Derived.Test.YtjnocbjngojigaaStC
import Derived.Test.YtjnocbjngojigaaVecI
set_option linter.unusedSimpArgs false
set_option linter.unusedVariables false
namespace Go.Proofs.Ytjnocbjngojigaa
open Go.RowKit PM Dt
def sunE (V : SeT) (a : Bool) : Bool := !a || (zV V.sun || decide (939524096 ≤ V.sun 2))
def sunA1 (X : SSt) (V : SeT) (a : Bool) : Nat → Int := if sunE V a then fun _ => 0 else X.A
def sunB (X : SSt) (V : SeT) (a : Bool) : Bool := zV (sunA1 X V a) && (a && (zV X.D && (zV V.rate && (!zV V.sun && decide (V.sun 2 < 805306368)))))
def sunA (X : SSt) (V : SeT) (a : Bool) : Nat → Int := if sunB X V a then acrF V.sun else sunA1 X V a
def sunTo (X : SSt) (V : SeT) (a : Bool) : Nat → Int := vscaleF (sunA X V a) 4194304
theorem zV_zero : zV (fun _ => 0) = true := by decide
theorem sun_cases (X : SSt) (V : SeT) (a : Bool) (A1 A2 : Nat → Int) (h1 : A1 = sunA1 X V a) (h2 : A2 = sunA X V a) :
    (a = false ∧ True ∧ True ∧ A1 = (fun _ => 0) ∧ zV A1 = true ∧ True ∧ True ∧ True ∧ A2 = A1 ∧ Hid (0 = 0) ∧ Hid (0 = 0) ∧ Hid (1 = 1) ∧ Hid (0 = 0) ∧ Hid (0 = 0) ∧ Hid (0 = 0) ∧ Hid (0 = 0)) ∨
    (a = true ∧ zV V.sun = true ∧ True ∧ A1 = (fun _ => 0) ∧ zV A1 = true ∧ zV X.D = false ∧ True ∧ True ∧ A2 = A1 ∧ Hid (1 = 1) ∧ Hid (0 = 0) ∧ Hid (1 = 1) ∧ Hid (1 = 1) ∧ Hid (0 = 0) ∧ Hid (0 = 0) ∧ Hid (0 = 0)) ∨
    (a = true ∧ zV V.sun = true ∧ True ∧ A1 = (fun _ => 0) ∧ zV A1 = true ∧ zV X.D = true ∧ zV V.rate = false ∧ True ∧ A2 = A1 ∧ Hid (1 = 1) ∧ Hid (0 = 0) ∧ Hid (1 = 1) ∧ Hid (1 = 1) ∧ Hid (1 = 1) ∧ Hid (0 = 0) ∧ Hid (0 = 0)) ∨
    (a = true ∧ zV V.sun = true ∧ True ∧ A1 = (fun _ => 0) ∧ zV A1 = true ∧ zV X.D = true ∧ zV V.rate = true ∧ True ∧ A2 = A1 ∧ Hid (1 = 1) ∧ Hid (0 = 0) ∧ Hid (1 = 1) ∧ Hid (1 = 1) ∧ Hid (1 = 1) ∧ Hid (1 = 1) ∧ Hid (0 = 0)) ∨
    (a = true ∧ zV V.sun = false ∧ decide (939524096 ≤ V.sun 2) = true ∧ A1 = (fun _ => 0) ∧ zV A1 = true ∧ zV X.D = false ∧ True ∧ True ∧ A2 = A1 ∧ Hid (1 = 1) ∧ Hid (1 = 1) ∧ Hid (1 = 1) ∧ Hid (1 = 1) ∧ Hid (0 = 0) ∧ Hid (0 = 0) ∧ Hid (0 = 0)) ∨
    (a = true ∧ zV V.sun = false ∧ decide (939524096 ≤ V.sun 2) = true ∧ A1 = (fun _ => 0) ∧ zV A1 = true ∧ zV X.D = true ∧ zV V.rate = false ∧ True ∧ A2 = A1 ∧ Hid (1 = 1) ∧ Hid (1 = 1) ∧ Hid (1 = 1) ∧ Hid (1 = 1) ∧ Hid (1 = 1) ∧ Hid (0 = 0) ∧ Hid (0 = 0)) ∨
    (a = true ∧ zV V.sun = false ∧ decide (939524096 ≤ V.sun 2) = true ∧ A1 = (fun _ => 0) ∧ zV A1 = true ∧ zV X.D = true ∧ zV V.rate = true ∧ decide (V.sun 2 < 805306368) = false ∧ A2 = A1 ∧ Hid (1 = 1) ∧ Hid (1 = 1) ∧ Hid (1 = 1) ∧ Hid (1 = 1) ∧ Hid (1 = 1) ∧ Hid (1 = 1) ∧ Hid (1 = 1)) ∨
    (a = true ∧ zV V.sun = false ∧ decide (939524096 ≤ V.sun 2) = false ∧ A1 = X.A ∧ zV A1 = false ∧ True ∧ True ∧ True ∧ A2 = A1 ∧ Hid (1 = 1) ∧ Hid (1 = 1) ∧ Hid (0 = 0) ∧ Hid (0 = 0) ∧ Hid (0 = 0) ∧ Hid (0 = 0) ∧ Hid (0 = 0)) ∨
    (a = true ∧ zV V.sun = false ∧ decide (939524096 ≤ V.sun 2) = false ∧ A1 = X.A ∧ zV A1 = true ∧ zV X.D = false ∧ True ∧ True ∧ A2 = A1 ∧ Hid (1 = 1) ∧ Hid (1 = 1) ∧ Hid (1 = 1) ∧ Hid (1 = 1) ∧ Hid (0 = 0) ∧ Hid (0 = 0) ∧ Hid (0 = 0)) ∨
    (a = true ∧ zV V.sun = false ∧ decide (939524096 ≤ V.sun 2) = false ∧ A1 = X.A ∧ zV A1 = true ∧ zV X.D = true ∧ zV V.rate = false ∧ True ∧ A2 = A1 ∧ Hid (1 = 1) ∧ Hid (1 = 1) ∧ Hid (1 = 1) ∧ Hid (1 = 1) ∧ Hid (1 = 1) ∧ Hid (0 = 0) ∧ Hid (0 = 0)) ∨
    (a = true ∧ zV V.sun = false ∧ decide (939524096 ≤ V.sun 2) = false ∧ A1 = X.A ∧ zV A1 = true ∧ zV X.D = true ∧ zV V.rate = true ∧ decide (V.sun 2 < 805306368) = false ∧ A2 = A1 ∧ Hid (1 = 1) ∧ Hid (1 = 1) ∧ Hid (1 = 1) ∧ Hid (1 = 1) ∧ Hid (1 = 1) ∧ Hid (1 = 1) ∧ Hid (1 = 1)) ∨
    (a = true ∧ zV V.sun = false ∧ decide (939524096 ≤ V.sun 2) = false ∧ A1 = X.A ∧ zV A1 = true ∧ zV X.D = true ∧ zV V.rate = true ∧ decide (V.sun 2 < 805306368) = true ∧ A2 = acrF V.sun ∧ Hid (1 = 1) ∧ Hid (1 = 1) ∧ Hid (1 = 1) ∧ Hid (1 = 1) ∧ Hid (1 = 1) ∧ Hid (1 = 1) ∧ Hid (1 = 1)) := by
  have e1 : sunA X V a = if sunB X V a then acrF V.sun else A1 := by rw [h1]; rfl
  have e2 : sunB X V a = (zV A1 && (a && (zV X.D && (zV V.rate && (!zV V.sun && decide (V.sun 2 < 805306368)))))) := by rw [h1]; rfl
  have e3 : A1 = if sunE V a then fun _ => 0 else X.A := h1
  have e4 : sunE V a = (!a || (zV V.sun || decide (939524096 ≤ V.sun 2))) := rfl
  rw [e1] at h2
  clear e1 h1
  have hx : decide (939524096 ≤ V.sun 2) = true → decide (V.sun 2 < 805306368) = false := fun h => by
    have := of_decide_eq_true h
    exact decide_eq_false (by omega)
  rw [e4] at e3
  clear e4
  generalize decide (939524096 ≤ V.sun 2) = ge at *
  generalize decide (V.sun 2 < 805306368) = lt at *
  generalize zV V.sun = s0 at *
  generalize zV X.D = d at *
  generalize zV V.rate = r at *
  rw [e2] at h2
  clear e2
  have z0 := zV_zero
  cases a <;> cases s0 <;> cases ge <;> simp only [Bool.not_true, Bool.not_false, Bool.true_or, Bool.or_true, Bool.false_or, Bool.or_false, if_true, if_false, Bool.false_eq_true] at e3 <;>
    cases hz : zV A1 <;> cases d <;> cases r <;> cases lt <;> simp_all [Hid]
set_option maxRecDepth 100000 in
set_option maxHeartbeats 60000000 in
theorem sun1_any (X : SSt) (V : SeT) (b v0 q : Nat) (a : Bool) (w : World) (hg : blk w b (ssc X) 56) (hq : blk w q (ptc b) 42) (hv : blk w v0 (sec V) 46) (hS : ∀ i, i < 3 → -4294967296 ≤ V.sun i ∧ V.sun i ≤ 4294967296) : Calls Try.prog 61 #[.bool a, .pointer (some ⟨v0, 0, none⟩), .pointer (some ⟨q, 0, none⟩)] w fun e w' => e = .returned (.agg (vfn (sunTo X V a))) ∧ Below w.heap.size (w.setRow b (ssc ⟨X.D, sunA X V a, X.P, X.g⟩)) w' := by
  unfold sunTo
  obtain ⟨A1, h1⟩ : ∃ A1, A1 = sunA1 X V a := ⟨_, rfl⟩
  obtain ⟨A2, h2⟩ : ∃ A2, A2 = sunA X V a := ⟨_, rfl⟩
  have hc := Lib.hid (sun_cases X V a A1 A2 h1 h2)
  rw [← h2]
  clear h1 h2
  have SC := Lib.hid (fun w => vscale_any A2 4194304 w ⟨by omega, by omega⟩)
  have AC := Lib.hid (fun w => across_any V.sun w hS)
  clear hS
  have E0 := vec_eq0 (fun _ => 0)
  rw [zV_zero] at E0
  have E0b : ∀ w, (Op.equalIn 10000 25 (.agg (vfn fun _ => 0)) (.agg (vfn fun _ => 0))).run Try.prog w = .ok true w := fun w => by have := E0 w; rw [zero_vec] at this; exact this
  clear E0
  have E1 : ∀ w, (Op.equalIn 10000 25 (.agg (vfn V.sun)) (.agg (vfn fun _ => 0))).run Try.prog w = .ok (zV V.sun) w := fun w => by have := vec_eq0 V.sun w; rw [zero_vec] at this; exact this
  have E2 : ∀ w, (Op.equalIn 10000 25 (.agg (vfn A1)) (.agg (vfn fun _ => 0))).run Try.prog w = .ok (zV A1) w := fun w => by have := vec_eq0 A1 w; rw [zero_vec] at this; exact this
  have E3 : ∀ w, (Op.equalIn 10000 25 (.agg (vfn X.D)) (.agg (vfn fun _ => 0))).run Try.prog w = .ok (zV X.D) w := fun w => by have := vec_eq0 X.D w; rw [zero_vec] at this; exact this
  have E4 : ∀ w, (Op.equalIn 10000 25 (.agg (vfn V.rate)) (.agg (vfn fun _ => 0))).run Try.prog w = .ok (zV V.rate) w := fun w => by have := vec_eq0 V.rate w; rw [zero_vec] at this; exact this
  rcases hc.out with h | h | h | h | h | h | h | h | h | h | h | h
  all_goals
    obtain ⟨rfl, hs0, hge, hA1, hz, hd, hr, hlt, hA2, g1, g2, g3, g4, g5, g6, g7⟩ := h
    rw [hz] at E2
    try rw [hs0] at E1
    try rw [hd] at E3
    try rw [hr] at E4
    replace hA1 := Lib.hid hA1
    replace hA2 := Lib.hid hA2
    clear hc hz hs0 hd hr
    have gl := hg.lt
    have ql := hq.lt
    have vl := hv.lt
    have ne_q_g : q ≠ b := fun h => by
      subst h
      have h1 := hg.cellIs (i := 0) (v := .int .i64 (X.D 0)) rfl
      have h2 := hq.cellIs (i := 0) (v := .pointer (some ⟨q, 0, none⟩)) rfl
      rw [h1] at h2; cases h2
    have ne_v_g : v0 ≠ b := fun h => by
      subst h
      have h1 := hg.cellIs (i := 11) (v := .bool true) rfl
      have h2 := hv.cellIs (i := 11) (v := .int .i64 (V.att 0)) rfl
      rw [h1] at h2; cases h2
    go_enter Try.func61, Try.ntmps61
    go_upto_region 1 with (fail)
    simp only [zero_vec]
    have r : blk (w.alloc (.cells (vfn fun _ => 0) 25)) w.heap.size (vfn fun _ => 0) 25 := blk.new _ _ _
    have hB : Below w.heap.size w (w.alloc (.cells (vfn fun _ => 0) 25)) := by go_grown
    generalize (w.alloc (.cells (vfn fun _ => 0) 25)) = w0 at *
    have g : blk w0 b (ssc X) 56 := hg.below hB hg.lt
    have qb : blk w0 q (ptc b) 42 := hq.below hB hq.lt
    have vb : blk w0 v0 (sec V) 46 := hv.below hB hv.lt
    have ne_r_g : w.heap.size ≠ b := by omega
    have ne_r_qb : w.heap.size ≠ q := by omega
    have ne_r_vb : w.heap.size ≠ v0 := by omega
    have ne_qb_g : q ≠ b := ne_q_g
    have ne_vb_g : v0 ≠ b := ne_v_g
    clear hq hv
    replace hB : Save b b w w0 := Save.of hB
    go_upto_region 2 with (fail)
    simp only [zero_vec]
    have zz := blk.new w0 (vfn (fun _ => 0)) 25
    have le_0 := hB.size
    replace hB := hB.alloc hB.size (.cells (vfn (fun _ => 0)) 25)
    have ne_r_zz : w.heap.size ≠ w0.heap.size := Nat.ne_of_lt r.lt
    replace r := r.alloc (.cells (vfn (fun _ => 0)) 25)
    have ne_g_zz : b ≠ w0.heap.size := Nat.ne_of_lt g.lt
    replace g := g.alloc (.cells (vfn (fun _ => 0)) 25)
    have ne_qb_zz : q ≠ w0.heap.size := Nat.ne_of_lt qb.lt
    replace qb := qb.alloc (.cells (vfn (fun _ => 0)) 25)
    have ne_vb_zz : v0 ≠ w0.heap.size := Nat.ne_of_lt vb.lt
    replace vb := vb.alloc (.cells (vfn (fun _ => 0)) 25)
    have le_zz := le_0
    generalize w0.alloc (.cells (vfn (fun _ => 0)) 25) = w1 at *
    generalize w0.heap.size = zz_b at *
    have lt_r := r.lt
    have lt_g := g.lt
    have lt_qb := qb.lt
    have lt_vb := vb.lt
    have lt_zz := zz.lt
    have hW0 : w.heap.size ≤ w1.heap.size := by simpa using hB.size
    apply wp_region_Q 14 [0, 1, 3, 7, 15, 31, 63, 127, 255, 511, 1023, 2047, 4095, 8191] [] [_, _, _, _, _, _, _, _, _, _, _, _, _, _] (fun p L w' => w1.heap.size ≤ w'.heap.size ∧ Save b b w w' ∧ blk w' w.heap.size (vfn fun _ => 0) 25 ∧ blk w' b (ssc X) 56 ∧ blk w' q (ptc b) 42 ∧ blk w' v0 (sec V) 46 ∧ blk w' zz_b (vfn (fun _ => 0)) 25) _ [(0, 9), (1, 10), (2, 11), (3, 12), (4, 13), (5, 14), (6, 15), (7, 16), (8, 17), (9, 18), (10, 19), (11, 20), (12, 21), (13, 22)] [0, 1, 2, 3, 4, 5, 6, 7, 8, 9, 10, 11, 12, 13]
    case hn => rfl
    case hB => kernel_rfl
    case hds => kernel_rfl
    case hA => (intro p; simp only [putsD, Act.put, sIT, sCZ, sCS, List.getD_cons_zero, List.getD_cons_succ]; exact rfl)
    case h0 => exact fun p => ⟨Nat.le_refl _, hB, r, g, qb, vb, zz⟩
    case hmore => exact fun p L w1 w2 ⟨hsz, hB, r, g, qb, vb, zz⟩ hm => ⟨Nat.le_trans hsz hm.size, hB.trans (hm.mono (Nat.le_trans hW0 hsz)), r.below hm r.lt, g.below hm g.lt, qb.below hm qb.lt, vb.below hm vb.lt, zz.below hm zz.lt⟩
    case hs =>
      intro more
      iterate 3 (refine stepV _ rfl rfl (fun _ _ _ h => h) (by intros; go_simp; exact ⟨rfl, rfl⟩) ?_)
      first
        | (have hh : Hid (0 = 0) := g1; iterate 4 (refine AllI.cons (stepI_off _ rfl (fun p => rfl) (fun p => rfl) (fun _ _ _ h => h)) ?_))
        | (refine stepVg _ rfl (fun p => (by first | rfl | (simp [Region.wanted, yielded]; done))) (fun _ _ _ h => h) (by intros; go_simp; exact ⟨rfl, rfl⟩) ?_
           refine stepVg 4 rfl (fun p => (by first | rfl | (simp [Region.wanted, yielded]; done))) (fun _ _ _ h => h) ?_ ?_
           · rintro p L w1 ⟨hsz, hB, r, g, qb, vb, zz⟩ hk
             exact valR_part _ _ rfl _ 8 rfl _ _ vb (vfn V.sun) (se_s V) _ Try.underlying25 rfl (by rw [vfn_size]; kernel_rfl) rfl
           refine stepVg 5 rfl (fun p => (by first | rfl | (simp [Region.wanted, yielded]; done))) (fun _ _ _ h => h) ?_ ?_
           · rintro p L w1 ⟨hsz, hB, r, g, qb, vb, zz⟩ hk
             first | exact valR_row _ _ rfl _ rfl _ _ zz _ Try.underlying25 rfl (by first | kernel_rfl | (rw [vfn_size]; kernel_rfl)) rfl | (have hc := zz.cellIs (vfn_get _ (show 0 < 3 by omega)); go_simp; exact ⟨rfl, rfl⟩)
           refine stepVg _ rfl (fun p => (by first | rfl | (simp [Region.wanted, yielded]; done))) (fun _ _ _ h => h) (by intros; go_simp; exact ⟨rfl, rfl⟩) ?_)
      iterate 2 (refine stepV _ rfl rfl (fun _ _ _ h => h) (by intros; go_simp; exact ⟨rfl, rfl⟩) ?_)
      first
        | (have hh : Hid (0 = 0) := g2; iterate 4 (refine AllI.cons (stepI_off _ rfl (fun p => rfl) (fun p => rfl) (fun _ _ _ h => h)) ?_))
        | (iterate 2 (refine stepVg _ rfl (fun p => (by first | rfl | (simp [Region.wanted, yielded]; done))) (fun _ _ _ h => h) (by intros; go_simp; exact ⟨rfl, rfl⟩) ?_)
           refine stepVg 11 rfl (fun p => (by first | rfl | (simp [Region.wanted, yielded]; done))) (fun _ _ _ h => h) ?_ ?_
           · rintro p L w1 ⟨hsz, hB, r, g, qb, vb, zz⟩ hk
             have hc : w1.cell? ⟨v0, 10, none⟩ = some (.int .i64 (V.sun 2)) := vb.cellIs rfl
             go_simp
             exact ⟨rfl, rfl⟩
           refine stepVg _ rfl (fun p => (by first | rfl | (simp [Region.wanted, yielded]; done))) (fun _ _ _ h => h) (by intros; go_simp; exact ⟨rfl, rfl⟩) ?_)
      refine stepV _ rfl rfl (fun _ _ _ h => h) (by intros; go_simp; exact ⟨rfl, rfl⟩) ?_
      exact AllI.nil
    case hV0 => exact fun p q => AllI.nil
    case he =>
    clear hB r g qb vb zz
    rintro p w1r ⟨hsz, hB, r, g, qb, vb, zz⟩
    clear lt_r lt_g lt_qb lt_vb lt_zz hsz hW0
    first
      | (have hA : A1 = fun _ => 0 := hA1.out
         clear hA
         go_upto_region 3 with (fail)
         have lt_r := r.lt
         have lt_g := g.lt
         have lt_qb := qb.lt
         have lt_vb := vb.lt
         have lt_zz := zz.lt
         have hW0 : w.heap.size ≤ w1r.heap.size := by simpa using hB.size
         apply wp_region_Q 6 [0, 1, 3, 7, 15, 31] [] [_, _, _, _, _, (fun _ => undef)] (fun p L w' => w1r.heap.size ≤ w'.heap.size ∧ Save b b w w' ∧ blk w' w.heap.size (vfn fun _ => 0) 25 ∧ blk w' b (bif L 5 then (ssc ⟨X.D, fun _ => 0, X.P, X.g⟩) else (ssc X)) 56 ∧ blk w' q (ptc b) 42 ∧ blk w' v0 (sec V) 46 ∧ blk w' zz_b (vfn (fun _ => 0)) 25) _ [(0, 23), (1, 24), (2, 25), (3, 26), (4, 27)] [0, 1, 2, 3, 4, 5]
         case hn => rfl
         case hB => kernel_rfl
         case hds => kernel_rfl
         case hA => (intro p; simp only [putsD, Act.put, sIT, sCZ, sCS, List.getD_cons_zero, List.getD_cons_succ]; exact rfl)
         case h0 => exact fun p => ⟨Nat.le_refl _, hB, r, g, qb, vb, zz⟩
         case hmore => exact fun p L w1 w2 ⟨hsz, hB, r, g, qb, vb, zz⟩ hm => ⟨Nat.le_trans hsz hm.size, hB.trans (hm.mono (Nat.le_trans hW0 hsz)), r.below hm r.lt, g.below hm g.lt, qb.below hm qb.lt, vb.below hm vb.lt, zz.below hm zz.lt⟩
         case hs =>
           intro more
           refine stepV 0 rfl rfl (fun _ _ _ h => h) ?_ ?_
           · rintro p L w1 ⟨hsz, hB, r, g, qb, vb, zz⟩ hk
             have L5 : L 5 = false := hk.2.2 5 rfl
             have hc : w1.cell? ⟨q, 0, none⟩ = some (.pointer (some ⟨b, 0, none⟩)) := qb.cellIs rfl
             go_simp
             exact ⟨rfl, rfl⟩
           refine stepV 1 rfl rfl (fun _ _ _ h => h) ?_ ?_
           · rintro p L w1 ⟨hsz, hB, r, g, qb, vb, zz⟩ hk
             have L5 : L 5 = false := hk.2.2 5 rfl
             first | exact valR_row _ _ rfl _ rfl _ _ zz _ Try.underlying25 rfl (by first | kernel_rfl | (rw [vfn_size]; kernel_rfl)) rfl | (have hc := zz.cellIs (vfn_get _ (show 0 < 3 by omega)); go_simp; exact ⟨rfl, rfl⟩)
           iterate 3 (refine stepV _ rfl rfl (fun _ _ _ h => h) (by intros; go_simp; exact ⟨rfl, rfl⟩) ?_)
           refine AllI.cons ?_ ?_
           · refine stepI_store 5 rfl (fun p => rfl) (fun p => rfl) _ _ _ rfl (fun _ => b) 3 (fun p => rfl) (fun p => (vfn (fun _ => 0))) (fun p => rfl) (fun p => (ssc X)) (fun p => (ssc ⟨X.D, fun _ => 0, X.P, X.g⟩)) 56 (fun p => over_sa _ _ _ _ _) (fun p => by first | (rw [vfn_size, ssc_size]; decide) | simp [vfn_size, ssc_size]) (fun p => by rw [vfn_size]; kernel_rfl) (fun p => vfn_one _) ?_ ?_
             · rintro p L w1 ⟨hsz, hB, r, g, qb, vb, zz⟩ hk
               have L5 : L 5 = false := hk.1
               rw [L5] at g
               try simp only [cond_true, cond_false] at g
               exact g
             · rintro p L w1 ⟨hsz, hB, r, g, qb, vb, zz⟩ hk
               have L5 : L 5 = false := hk.1
               skip
               refine ⟨(by simpa using hsz), hB.row (by first | exact .inr (Nat.le_trans hW0 hp.1) | exact .inr ge_g | exact .inl ⟨Nat.le_refl _, Nat.le_refl _⟩ | omega | (have := hB.size; simp at this ⊢; omega)) _, r.rowOther ne_r_g _, ?_, qb.rowOther ne_qb_g _, vb.rowOther ne_vb_g _, zz.rowOther (Ne.symm ne_g_zz) _⟩
               rw [show upL L 5 5 = true from rfl]
               exact g.row _
           exact AllI.nil
         case hV0 => exact fun p q => AllI.nil
         case' he =>
         clear hB r g qb vb zz
         rintro p w1r ⟨hsz, hB, r, g, qb, vb, zz⟩
         replace g : blk w1r b (ssc ⟨X.D, fun _ => 0, X.P, X.g⟩) 56 := g
         clear lt_r lt_g lt_qb lt_vb lt_zz hsz hW0
         go_upto_region 4 with (fail))
      | (go_upto_region 4 with (fail))
    replace g : blk w1r b (ssc ⟨X.D, A1, X.P, X.g⟩) 56 := by rw [hA1.out]; exact g
    clear hA1
    have lt_r := r.lt
    have lt_g := g.lt
    have lt_qb := qb.lt
    have lt_vb := vb.lt
    have lt_zz := zz.lt
    have hW0 : w.heap.size ≤ w1r.heap.size := by simpa using hB.size
    apply wp_region_I 37 [0, 1, 3, 7, 15, 0, 63, 127, 255, 511, 1023, 2047, 4095, 8191, 16383, 32767, 2047, 131071, 262143, 524287, 1048575, 2097151, 1048575, 8388607, 16777215, 33554431, 67108863, 134217727, 67108863, 536870911, 1073741823, 2147483647, 4294967295, 8589934591, 17179869183, 34359738367, 68719476735] [] [_, _, _, _, _, _, _, _, _, _, _, _, _, _, _, _, _, _, _, _, _, _, _, _, _, _, _, _, _, _, _, _, _, _, _, _, _] (fun p L w' => w1r.heap.size ≤ w'.heap.size ∧ Save b b w w' ∧ blk w' w.heap.size (vfn fun _ => 0) 25 ∧ blk w' b (ssc ⟨X.D, A1, X.P, X.g⟩) 56 ∧ blk w' q (ptc b) 42 ∧ blk w' v0 (sec V) 46 ∧ blk w' zz_b (vfn (fun _ => 0)) 25) _ [(0, 28), (1, 29), (2, 30), (3, 31), (4, 32), (5, 33), (6, 34), (7, 35), (8, 36), (9, 37), (10, 38), (11, 39), (12, 40), (13, 41), (14, 42), (15, 43), (16, 44), (17, 45), (18, 46), (19, 47), (20, 48), (21, 49), (22, 50), (23, 51), (24, 52), (25, 53), (26, 54), (27, 55), (28, 56), (29, 57), (30, 58), (31, 59), (32, 60), (33, 61), (34, 62), (35, 63), (36, 64)] [0, 1, 2, 3, 4, 5, 6, 7, 8, 9, 10, 11, 12, 13, 14, 15, 16, 17, 18, 19, 20, 21, 22, 23, 24, 25, 26, 27, 28, 29, 30, 31, 32, 33, 34, 35, 36]
    case hn => rfl
    case hm => kernel_rfl
    case hB => kernel_rfl
    case hds => kernel_rfl
    case hA => (intro p; simp only [putsD, Act.put, sIT, sCZ, sCS, List.getD_cons_zero, List.getD_cons_succ]; exact rfl)
    case h0 => exact fun p => ⟨Nat.le_refl _, hB.drew, r.drew, g.drew, qb.drew, vb.drew, zz.drew⟩
    case hmore => exact fun p L w1 w2 ⟨hsz, hB, r, g, qb, vb, zz⟩ hm => ⟨Nat.le_trans hsz hm.size, hB.trans (hm.mono (Nat.le_trans hW0 hsz)), r.below hm r.lt, g.below hm g.lt, qb.below hm qb.lt, vb.below hm vb.lt, zz.below hm zz.lt⟩
    case hs =>
      intro more
      refine stepV 0 rfl rfl (fun _ _ _ h => h) ?_ ?_
      · rintro p L w1 ⟨hsz, hB, r, g, qb, vb, zz⟩ hk
        have hc : w1.cell? ⟨q, 0, none⟩ = some (.pointer (some ⟨b, 0, none⟩)) := qb.cellIs rfl
        go_simp
        exact ⟨rfl, rfl⟩
      iterate 3 (refine stepV _ rfl rfl (fun _ _ _ h => h) (by intros; go_simp; exact ⟨rfl, rfl⟩) ?_)
      refine stepV 4 rfl rfl (fun _ _ _ h => h) ?_ ?_
      · rintro p L w1 ⟨hsz, hB, r, g, qb, vb, zz⟩ hk
        exact valR_part _ _ rfl _ 3 rfl _ _ g (vfn A1) (st_a ⟨X.D, A1, X.P, X.g⟩) _ Try.underlying25 rfl (by rw [vfn_size]; kernel_rfl) rfl
      refine stepV 5 rfl rfl (fun _ _ _ h => h) ?_ ?_
      · rintro p L w1 ⟨hsz, hB, r, g, qb, vb, zz⟩ hk
        first | exact valR_row _ _ rfl _ rfl _ _ zz _ Try.underlying25 rfl (by first | kernel_rfl | (rw [vfn_size]; kernel_rfl)) rfl | (have hc := zz.cellIs (vfn_get _ (show 0 < 3 by omega)); go_simp; exact ⟨rfl, rfl⟩)
      iterate 2 (refine stepV _ rfl rfl (fun _ _ _ h => h) (by intros; go_simp; exact ⟨rfl, rfl⟩) ?_)
      first
        | (have hh : Hid (0 = 0) := g3; refine AllI.cons (stepI_off _ rfl (fun p => rfl) (fun p => rfl) (fun _ _ _ h => h)) ?_)
        | (refine stepVg _ rfl (fun p => (by first | rfl | (simp [Region.wanted, yielded]; done))) (fun _ _ _ h => h) (by intros; go_simp; exact ⟨rfl, rfl⟩) ?_)
      iterate 2 (refine stepV _ rfl rfl (fun _ _ _ h => h) (by intros; go_simp; exact ⟨rfl, rfl⟩) ?_)
      first
        | (have hh : Hid (0 = 0) := g4; iterate 7 (refine AllI.cons (stepI_off _ rfl (fun p => rfl) (fun p => rfl) (fun _ _ _ h => h)) ?_))
        | (refine stepVg 11 rfl (fun p => (by first | rfl | (simp [Region.wanted, yielded]; done))) (fun _ _ _ h => h) ?_ ?_
           · rintro p L w1 ⟨hsz, hB, r, g, qb, vb, zz⟩ hk
             have hc : w1.cell? ⟨q, 0, none⟩ = some (.pointer (some ⟨b, 0, none⟩)) := qb.cellIs rfl
             go_simp
             exact ⟨rfl, rfl⟩
           iterate 3 (refine stepVg _ rfl (fun p => (by first | rfl | (simp [Region.wanted, yielded]; done))) (fun _ _ _ h => h) (by intros; go_simp; exact ⟨rfl, rfl⟩) ?_)
           refine stepVg 15 rfl (fun p => (by first | rfl | (simp [Region.wanted, yielded]; done))) (fun _ _ _ h => h) ?_ ?_
           · rintro p L w1 ⟨hsz, hB, r, g, qb, vb, zz⟩ hk
             exact valR_part _ _ rfl _ 0 rfl _ _ g (vfn X.D) (st_d ⟨X.D, A1, X.P, X.g⟩) _ Try.underlying25 rfl (by rw [vfn_size]; kernel_rfl) rfl
           refine stepVg 16 rfl (fun p => (by first | rfl | (simp [Region.wanted, yielded]; done))) (fun _ _ _ h => h) ?_ ?_
           · rintro p L w1 ⟨hsz, hB, r, g, qb, vb, zz⟩ hk
             first | exact valR_row _ _ rfl _ rfl _ _ zz _ Try.underlying25 rfl (by first | kernel_rfl | (rw [vfn_size]; kernel_rfl)) rfl | (have hc := zz.cellIs (vfn_get _ (show 0 < 3 by omega)); go_simp; exact ⟨rfl, rfl⟩)
           refine stepVg _ rfl (fun p => (by first | rfl | (simp [Region.wanted, yielded]; done))) (fun _ _ _ h => h) (by intros; go_simp; exact ⟨rfl, rfl⟩) ?_)
      iterate 2 (refine stepV _ rfl rfl (fun _ _ _ h => h) (by intros; go_simp; exact ⟨rfl, rfl⟩) ?_)
      first
        | (have hh : Hid (0 = 0) := g5; iterate 4 (refine AllI.cons (stepI_off _ rfl (fun p => rfl) (fun p => rfl) (fun _ _ _ h => h)) ?_))
        | (refine stepVg _ rfl (fun p => (by first | rfl | (simp [Region.wanted, yielded]; done))) (fun _ _ _ h => h) (by intros; go_simp; exact ⟨rfl, rfl⟩) ?_
           refine stepVg 21 rfl (fun p => (by first | rfl | (simp [Region.wanted, yielded]; done))) (fun _ _ _ h => h) ?_ ?_
           · rintro p L w1 ⟨hsz, hB, r, g, qb, vb, zz⟩ hk
             exact valR_part _ _ rfl _ 0 rfl _ _ vb (vfn V.rate) (se_r V) _ Try.underlying25 rfl (by rw [vfn_size]; kernel_rfl) rfl
           refine stepVg 22 rfl (fun p => (by first | rfl | (simp [Region.wanted, yielded]; done))) (fun _ _ _ h => h) ?_ ?_
           · rintro p L w1 ⟨hsz, hB, r, g, qb, vb, zz⟩ hk
             first | exact valR_row _ _ rfl _ rfl _ _ zz _ Try.underlying25 rfl (by first | kernel_rfl | (rw [vfn_size]; kernel_rfl)) rfl | (have hc := zz.cellIs (vfn_get _ (show 0 < 3 by omega)); go_simp; exact ⟨rfl, rfl⟩)
           refine stepVg _ rfl (fun p => (by first | rfl | (simp [Region.wanted, yielded]; done))) (fun _ _ _ h => h) (by intros; go_simp; exact ⟨rfl, rfl⟩) ?_)
      iterate 2 (refine stepV _ rfl rfl (fun _ _ _ h => h) (by intros; go_simp; exact ⟨rfl, rfl⟩) ?_)
      first
        | (have hh : Hid (0 = 0) := g6; iterate 4 (refine AllI.cons (stepI_off _ rfl (fun p => rfl) (fun p => rfl) (fun _ _ _ h => h)) ?_))
        | (refine stepVg _ rfl (fun p => (by first | rfl | (simp [Region.wanted, yielded]; done))) (fun _ _ _ h => h) (by intros; go_simp; exact ⟨rfl, rfl⟩) ?_
           refine stepVg 27 rfl (fun p => (by first | rfl | (simp [Region.wanted, yielded]; done))) (fun _ _ _ h => h) ?_ ?_
           · rintro p L w1 ⟨hsz, hB, r, g, qb, vb, zz⟩ hk
             exact valR_part _ _ rfl _ 8 rfl _ _ vb (vfn V.sun) (se_s V) _ Try.underlying25 rfl (by rw [vfn_size]; kernel_rfl) rfl
           refine stepVg 28 rfl (fun p => (by first | rfl | (simp [Region.wanted, yielded]; done))) (fun _ _ _ h => h) ?_ ?_
           · rintro p L w1 ⟨hsz, hB, r, g, qb, vb, zz⟩ hk
             first | exact valR_row _ _ rfl _ rfl _ _ zz _ Try.underlying25 rfl (by first | kernel_rfl | (rw [vfn_size]; kernel_rfl)) rfl | (have hc := zz.cellIs (vfn_get _ (show 0 < 3 by omega)); go_simp; exact ⟨rfl, rfl⟩)
           refine stepVg _ rfl (fun p => (by first | rfl | (simp [Region.wanted, yielded]; done))) (fun _ _ _ h => h) (by intros; go_simp; exact ⟨rfl, rfl⟩) ?_)
      iterate 2 (refine stepV _ rfl rfl (fun _ _ _ h => h) (by intros; go_simp; exact ⟨rfl, rfl⟩) ?_)
      first
        | (have hh : Hid (0 = 0) := g7; iterate 4 (refine AllI.cons (stepI_off _ rfl (fun p => rfl) (fun p => rfl) (fun _ _ _ h => h)) ?_))
        | (iterate 2 (refine stepVg _ rfl (fun p => (by first | rfl | (simp [Region.wanted, yielded]; done))) (fun _ _ _ h => h) (by intros; go_simp; exact ⟨rfl, rfl⟩) ?_)
           refine stepVg 34 rfl (fun p => (by first | rfl | (simp [Region.wanted, yielded]; done))) (fun _ _ _ h => h) ?_ ?_
           · rintro p L w1 ⟨hsz, hB, r, g, qb, vb, zz⟩ hk
             have hc : w1.cell? ⟨v0, 10, none⟩ = some (.int .i64 (V.sun 2)) := vb.cellIs rfl
             go_simp
             exact ⟨rfl, rfl⟩
           refine stepVg _ rfl (fun p => (by first | rfl | (simp [Region.wanted, yielded]; done))) (fun _ _ _ h => h) (by intros; go_simp; exact ⟨rfl, rfl⟩) ?_)
      refine stepV _ rfl rfl (fun _ _ _ h => h) (by intros; go_simp; exact ⟨rfl, rfl⟩) ?_
      exact AllI.nil
    case hV0 => exact fun p q => AllI.nil
    case he =>
    clear hB r g qb vb zz
    rintro p w1rr ⟨hsz, hB, r, g, qb, vb, zz⟩
    clear lt_r lt_g lt_qb lt_vb lt_zz hsz hW0
    first
      | (have hA : A2 = acrF V.sun := hA2.out
         clear hA
         go_upto_region 5 with (fail)
         have lt_r := r.lt
         have lt_g := g.lt
         have lt_qb := qb.lt
         have lt_vb := vb.lt
         have lt_zz := zz.lt
         have hW0 : w.heap.size ≤ w1rr.heap.size := by simpa using hB.size
         apply wp_region_I 8 [0, 0, 2, 6, 15, 31, 63, 127] [] [_, _, _, _, _, _, _, (fun _ => undef)] (fun p L w' => w1rr.heap.size ≤ w'.heap.size ∧ Save b b w w' ∧ blk w' w.heap.size (vfn fun _ => 0) 25 ∧ blk w' b (bif L 7 then (ssc ⟨X.D, acrF V.sun, X.P, X.g⟩) else (ssc ⟨X.D, A1, X.P, X.g⟩)) 56 ∧ blk w' q (ptc b) 42 ∧ blk w' v0 (sec V) 46 ∧ blk w' zz_b (vfn (fun _ => 0)) 25) _ [(0, 65), (1, 66), (2, 67), (3, 68), (4, 69), (5, 70), (6, 71)] [0, 1, 2, 3, 4, 5, 6, 7]
         case hn => rfl
         case hm => kernel_rfl
         case hB => kernel_rfl
         case hds => kernel_rfl
         case hA => (intro p; simp only [putsD, Act.put, sIT, sCZ, sCS, List.getD_cons_zero, List.getD_cons_succ]; exact rfl)
         case h0 => exact fun p => ⟨Nat.le_refl _, hB.drew, r.drew, g.drew, qb.drew, vb.drew, zz.drew⟩
         case hmore => exact fun p L w1 w2 ⟨hsz, hB, r, g, qb, vb, zz⟩ hm => ⟨Nat.le_trans hsz hm.size, hB.trans (hm.mono (Nat.le_trans hW0 hsz)), r.below hm r.lt, g.below hm g.lt, qb.below hm qb.lt, vb.below hm vb.lt, zz.below hm zz.lt⟩
         case hs =>
           intro more
           refine stepV 0 rfl rfl (fun _ _ _ h => h) ?_ ?_
           · rintro p L w1 ⟨hsz, hB, r, g, qb, vb, zz⟩ hk
             have L7 : L 7 = false := hk.2.2 7 rfl
             have hc : w1.cell? ⟨q, 0, none⟩ = some (.pointer (some ⟨b, 0, none⟩)) := qb.cellIs rfl
             go_simp
             exact ⟨rfl, rfl⟩
           refine stepV _ rfl rfl (fun _ _ _ h => h) (by intros; go_simp; exact ⟨rfl, rfl⟩) ?_
           refine stepV 2 rfl rfl (fun _ _ _ h => h) ?_ ?_
           · rintro p L w1 ⟨hsz, hB, r, g, qb, vb, zz⟩ hk
             have L7 : L 7 = false := hk.2.2 7 rfl
             exact valR_part _ _ rfl _ 8 rfl _ _ vb (vfn V.sun) (se_s V) _ Try.underlying25 rfl (by rw [vfn_size]; kernel_rfl) rfl
           refine stepD 3 rfl (fun p => rfl) (fun _ _ _ h => h) more ?_ ?_
           · rintro p L w1 ⟨hsz, hB, r, g, qb, vb, zz⟩ hk
             go_simp
             refine (AC.out _).mono ?_
             rintro e w2 ⟨rfl, h2⟩
             first | exact ⟨rfl, h2⟩ | (subst h2; exact ⟨rfl, Below.refl _ _⟩)
           iterate 3 (refine stepV _ rfl rfl (fun _ _ _ h => h) (by intros; go_simp; exact ⟨rfl, rfl⟩) ?_)
           refine AllI.cons ?_ ?_
           · refine stepI_store 7 rfl (fun p => rfl) (fun p => rfl) _ _ _ rfl (fun _ => b) 3 (fun p => rfl) (fun p => (vfn (acrF V.sun))) (fun p => rfl) (fun p => (ssc ⟨X.D, A1, X.P, X.g⟩)) (fun p => (ssc ⟨X.D, acrF V.sun, X.P, X.g⟩)) 56 (fun p => over_sa _ _ _ _ _) (fun p => by first | (rw [vfn_size, ssc_size]; decide) | simp [vfn_size, ssc_size]) (fun p => by rw [vfn_size]; kernel_rfl) (fun p => vfn_one _) ?_ ?_
             · rintro p L w1 ⟨hsz, hB, r, g, qb, vb, zz⟩ hk
               have L7 : L 7 = false := hk.1
               rw [L7] at g
               try simp only [cond_true, cond_false] at g
               exact g
             · rintro p L w1 ⟨hsz, hB, r, g, qb, vb, zz⟩ hk
               have L7 : L 7 = false := hk.1
               skip
               refine ⟨(by simpa using hsz), hB.row (by first | exact .inr (Nat.le_trans hW0 hp.1) | exact .inr ge_g | exact .inl ⟨Nat.le_refl _, Nat.le_refl _⟩ | omega | (have := hB.size; simp at this ⊢; omega)) _, r.rowOther ne_r_g _, ?_, qb.rowOther ne_qb_g _, vb.rowOther ne_vb_g _, zz.rowOther (Ne.symm ne_g_zz) _⟩
               rw [show upL L 7 7 = true from rfl]
               exact g.row _
           exact AllI.nil
         case hV0 => exact fun p q => AllI.nil
         case' he =>
         clear hB r g qb vb zz
         rintro p w1rr ⟨hsz, hB, r, g, qb, vb, zz⟩
         replace g : blk w1rr b (ssc ⟨X.D, acrF V.sun, X.P, X.g⟩) 56 := g
         clear lt_r lt_g lt_qb lt_vb lt_zz hsz hW0
         go_upto_region 6 with (fail))
      | (go_upto_region 6 with (fail))
    replace g : blk w1rr b (ssc ⟨X.D, A2, X.P, X.g⟩) 56 := by rw [hA2.out]; exact g
    clear hA2 AC
    have cq : w1rr.cell? ⟨q, 0, none⟩ = some (.pointer (some ⟨b, 0, none⟩)) := qb.cellIs rfl
    clear qb vb zz
    go_upto_region 7 with (first
      | (go_at_call 63; with_reducible refine (SC.out _).mono ?_; rintro e wsc ⟨rfl, hb⟩; replace hB := hB.trans (hb.mono hB.size); replace r := r.below hb r.lt; replace g := g.below hb g.lt; clear hb)
      | (refine wpList_load_part ?hw _ _ rfl _ 3 rfl _ _ g (vfn A2) (st_a ⟨X.D, A2, X.P, X.g⟩) _ Try.underlying25 rfl ?hi ?_; (case hw => (first | rfl | (simp [Region.wanted, yielded]; done))); (case hi => (rw [vfn_size]; kernel_rfl)))
      | (rw [zero_vec]; refine wpList_store_row rfl _ _ _ rfl _ rfl _ rfl _ _ (blk.new _ _ _) (by first | kernel_rfl | (rw [vfn_size]; kernel_rfl)) (by first | rfl | simp only [vfn_size]) (by first | exact vfn_one _ | rfl) ?_))
    clear cq
    have x := (blk.new wsc (vfn fun _ => 0) 25).row (vfn (vscaleF A2 4194304))
    replace hB := (hB.alloc hB.size (.cells (vfn fun _ => 0) 25)).row (g := wsc.heap.size) (.inr hB.size) (vfn (vscaleF A2 4194304))
    have hne : ∀ x, x < wsc.heap.size → x ≠ wsc.heap.size := fun x hx => Nat.ne_of_lt hx
    replace r := (r.alloc (.cells (vfn fun _ => 0) 25)).rowOther (hne _ r.lt) (vfn (vscaleF A2 4194304))
    replace g := (g.alloc (.cells (vfn fun _ => 0) 25)).rowOther (hne _ g.lt) (vfn (vscaleF A2 4194304))
    clear hne
    generalize (wsc.alloc (.cells (vfn fun _ => 0) 25)).setRow wsc.heap.size (vfn (vscaleF A2 4194304)) = wscx at *
    generalize wsc.heap.size = x_b at *
    go_wp2_with (first
      | (refine wpList_load_rowG ?hw _ _ rfl _ rfl _ _ _ _ x Try.underlying25 rfl ?hi ?_; (case hw => (first | rfl | (simp [Region.wanted, yielded]; done))); (case hi => (first | kernel_rfl | (rw [vfn_size]; kernel_rfl))))
      | (refine wpList_store_row rfl _ _ _ rfl _ rfl _ rfl _ _ r (by first | kernel_rfl | (rw [vfn_size]; kernel_rfl)) (by first | rfl | simp only [vfn_size]) (by first | exact vfn_one _ | rfl) ?_))
    refine bodyPost_ret (results_cell_row rfl _ _ _ _ _ _ _ rfl (r.row (vfn (vscaleF A2 4194304))) Try.underlying25 rfl (by rw [vfn_size]; kernel_rfl)) rfl ?_
    exact ⟨rfl, (hB.row (by first | exact .inr (Nat.le_refl _) | exact .inr (by omega)) _).toRow hg (g.rowOther (Ne.symm ne_r_g) _)⟩
end Go.Proofs.Ytjnocbjngojigaa
