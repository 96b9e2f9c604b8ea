/-
  Controls: a step (N).
-/
import Derived.Test.YtjnocbjngojigaaStA
set_option linter.unusedSimpArgs false
set_option linter.unusedVariables false
namespace Go.Proofs.Ytjnocbjngojigaa
open Go.RowKit PM Dt
set_option maxRecDepth 100000 in
set_option maxHeartbeats 4000000 in
theorem tstep_g_no1 (X : SSt) (V : SeT) (b  : Nat) (N : Nat) (cs : Array Value) (w : World) (hg : blk w b (ssc X) 56) (hn : newB V.sp V.f = false) : Calls Try.prog 57 #[.pointer (some ⟨b, 0, none⟩), .agg (sec V), .func (.func N) #[] cs] w fun e w' => e = .returned (.tuple #[.agg (qfn fun _ => 0), .int .i64 2]) ∧ Below w.heap.size w w' := by
  have WN := Lib.hid (fun w => wnew_no V.sp V.f w hn)
  have NN := Lib.hid (fun w' (hb : Below w.heap.size w w') => tnone_any X b w' (hg.below hb hg.lt))
  have gl := hg.lt
  go_enter Try.func57, Try.ntmps57
  go_upto_region 1 with (fail)
  simp only [zero_spd]
  have v : blk ((w.alloc (.cells (sec V) 46)).alloc (.cells (qfn fun _ => 0) 22)) w.heap.size (sec V) 46 := (blk.new _ _ _).alloc _
  have r : blk ((w.alloc (.cells (sec V) 46)).alloc (.cells (qfn fun _ => 0) 22)) (w.heap.size + 1) (qfn fun _ => 0) 22 := blk.new' (by simp)
  have hB : Below w.heap.size w ((w.alloc (.cells (sec V) 46)).alloc (.cells (qfn fun _ => 0) 22)) := by go_grown
  generalize ((w.alloc (.cells (sec V) 46)).alloc (.cells (qfn fun _ => 0) 22)) = w0 at *
  have cf : w0.cell? ⟨w.heap.size, 7, none⟩ = some (.int .i64 V.f) := v.cellIs rfl
  go_upto_region 5 with (first | (go_at_call 56; with_reducible refine (NN.out _ hB).mono ?_; rintro e w9 ⟨rfl, rfl⟩) | (refine wpList_load_part ?hw _ _ rfl _ 3 rfl _ _ v (qfn V.sp) (se_p V) _ Try.underlying22 rfl ?hi ?_; (case hw => (first | rfl | (simp [Region.wanted, yielded]; done))); (case hi => (rw [qfn_size]; kernel_rfl))) | (refine wpList_load_part ?hw _ _ rfl _ 0 rfl _ _ v (vfn V.rate) (se_r V) _ Try.underlying25 rfl ?hi ?_; (case hw => (first | rfl | (simp [Region.wanted, yielded]; done))); (case hi => (rw [vfn_size]; kernel_rfl))) | (refine wpList_load_part ?hw _ _ rfl _ 8 rfl _ _ v (vfn V.sun) (se_s V) _ Try.underlying25 rfl ?hi ?_; (case hw => (first | rfl | (simp [Region.wanted, yielded]; done))); (case hi => (rw [vfn_size]; kernel_rfl))) | (go_at_call 42; with_reducible refine (WN.out _).mono ?_; rintro e w1 ⟨rfl, hb⟩; replace hB := hB.trans (hb.mono hB.size); replace v := v.below hb v.lt; replace r := r.below hb r.lt; clear hb))
  have lt_v := v.lt
  have lt_r := r.lt
  have hW0 : w.heap.size ≤ w1.heap.size := by simpa using hB.size
  apply wp_region_Q 3 [0, 1, 3] [] [_, (fun _ => undef), _] (fun p L w' => w1.heap.size ≤ w'.heap.size ∧ Below w.heap.size w w' ∧ blk w' w.heap.size (sec V) 46 ∧ blk w' (w.heap.size + 1) (bif L 1 then (qfn (fun _ => 0)) else (qfn fun _ => 0)) 22) _ [(0, 40), (2, 7)] [0, 1, 2]
  case hn => rfl
  case hB => kernel_rfl
  case hds => kernel_rfl
  case hA => (intro p; simp only [putsD, Act.put, sIT, sCZ, sCS, List.getD_cons_zero, List.getD_cons_succ]; exact rfl)
  case h0 => exact fun p => ⟨Nat.le_refl _, hB, v, r⟩
  case hmore => exact fun p L w1 w2 ⟨hsz, hB, v, r⟩ hm => ⟨Nat.le_trans hsz hm.size, hB.trans (hm.mono (Nat.le_trans hW0 hsz)), v.below hm v.lt, r.below hm r.lt⟩
  case hs =>
    intro more
    refine stepV 0 rfl rfl (fun _ _ _ h => h) ?_ ?_
    · intros; (try simp only [vfn, qfn]); go_simp; exact ⟨rfl, rfl⟩
    refine AllI.cons ?_ ?_
    · refine stepI_store 1 rfl (fun p => rfl) (fun p => rfl) _ _ _ rfl (fun _ => (w.heap.size + 1)) 0 (fun p => rfl) (fun p => (qfn (fun _ => 0))) (fun p => congrArg Value.agg zero_spd) (fun p => (qfn fun _ => 0)) (fun p => (qfn (fun _ => 0))) 22 (fun p => over_qq _ _) (fun p => by first | (rw [qfn_size, qfn_size]; decide) | simp [qfn_size, qfn_size]) (fun p => by rw [qfn_size]; kernel_rfl) (fun p => qfn_one _) ?_ ?_
      · rintro p L w1 ⟨hsz, hB, v, r⟩ hk
        have L1 : L 1 = false := hk.1
        rw [L1] at r
        try simp only [cond_true, cond_false] at r
        exact r
      · rintro p L w1 ⟨hsz, hB, v, r⟩ hk
        have L1 : L 1 = false := hk.1
        skip
        refine ⟨(by simpa using hsz), Below.setRow hB (by first | exact Nat.le_trans hW0 hp.1 | exact ge_r | omega | (have := hB.size; simp at this ⊢; omega)) _, v.rowOther (by first | exact ne_v_r | exact Ne.symm ne_r_v | omega) _, ?_⟩
        rw [show upL L 1 1 = true from rfl]
        exact r.row _
    refine stepV _ rfl rfl (fun _ _ _ h => h) (by intros; go_simp; exact ⟨rfl, rfl⟩) ?_
    exact AllI.nil
  case hV0 => exact fun p q => AllI.nil
  case he =>
  clear hB v r
  rintro p w1r ⟨hsz, hB, v, r⟩
  replace r : blk w1r (w.heap.size + 1) (qfn (fun _ => 0)) 22 := r
  clear lt_v lt_r hsz hW0
  go_wp2_with (fail)
  refine bodyPost_ret (results_vec rfl _ _ _ _ _ _ _ rfl r Try.underlying22 rfl (by first | kernel_rfl | (rw [qfn_size]; kernel_rfl))) rfl ?_
  refine ⟨?_, hB⟩
  rfl
set_option maxRecDepth 100000 in
set_option maxHeartbeats 4000000 in
theorem tstep_g_no2 (X : SSt) (V : SeT) (b  : Nat) (N : Nat) (cs : Array Value) (w : World) (hg : blk w b (ssc X) 56) (hn : newB V.sp V.f = true) (h1 : smallB V.rate 268435456 = false) : Calls Try.prog 57 #[.pointer (some ⟨b, 0, none⟩), .agg (sec V), .func (.func N) #[] cs] w fun e w' => e = .returned (.tuple #[.agg (qfn fun _ => 0), .int .i64 2]) ∧ Below w.heap.size w w' := by
  have WN := Lib.hid (fun w => wnew_ok V.sp V.f w hn)
  have W1 := Lib.hid (fun w => swithin_any V.rate 268435456 w (by omega) (by omega))
  have W2 := Lib.hid (fun w => swithin_any V.sun 2147483648 w (by omega) (by omega))
  rw [h1] at W1
  have NN := Lib.hid (fun w' (hb : Below w.heap.size w w') => tnone_any X b w' (hg.below hb hg.lt))
  have gl := hg.lt
  go_enter Try.func57, Try.ntmps57
  go_upto_region 1 with (fail)
  simp only [zero_spd]
  have v : blk ((w.alloc (.cells (sec V) 46)).alloc (.cells (qfn fun _ => 0) 22)) w.heap.size (sec V) 46 := (blk.new _ _ _).alloc _
  have r : blk ((w.alloc (.cells (sec V) 46)).alloc (.cells (qfn fun _ => 0) 22)) (w.heap.size + 1) (qfn fun _ => 0) 22 := blk.new' (by simp)
  have hB : Below w.heap.size w ((w.alloc (.cells (sec V) 46)).alloc (.cells (qfn fun _ => 0) 22)) := by go_grown
  generalize ((w.alloc (.cells (sec V) 46)).alloc (.cells (qfn fun _ => 0) 22)) = w0 at *
  have cf : w0.cell? ⟨w.heap.size, 7, none⟩ = some (.int .i64 V.f) := v.cellIs rfl
  go_upto_region 5 with (first | (go_at_call 56; with_reducible refine (NN.out _ hB).mono ?_; rintro e w9 ⟨rfl, rfl⟩) | (refine wpList_load_part ?hw _ _ rfl _ 3 rfl _ _ v (qfn V.sp) (se_p V) _ Try.underlying22 rfl ?hi ?_; (case hw => (first | rfl | (simp [Region.wanted, yielded]; done))); (case hi => (rw [qfn_size]; kernel_rfl))) | (refine wpList_load_part ?hw _ _ rfl _ 0 rfl _ _ v (vfn V.rate) (se_r V) _ Try.underlying25 rfl ?hi ?_; (case hw => (first | rfl | (simp [Region.wanted, yielded]; done))); (case hi => (rw [vfn_size]; kernel_rfl))) | (refine wpList_load_part ?hw _ _ rfl _ 8 rfl _ _ v (vfn V.sun) (se_s V) _ Try.underlying25 rfl ?hi ?_; (case hw => (first | rfl | (simp [Region.wanted, yielded]; done))); (case hi => (rw [vfn_size]; kernel_rfl))) | (go_at_call 42; with_reducible refine (WN.out _).mono ?_; rintro e w1 ⟨sb, rfl, g, hle, hb⟩; replace hB := hB.trans (hb.mono hB.size); replace v := v.below hb v.lt; replace r := r.below hb r.lt; clear hb) | (go_at_call 100; with_reducible refine (W1.out _).mono ?_; rintro e w2 ⟨rfl, hb⟩; replace hB := hB.trans (hb.mono hB.size); replace v := v.below hb v.lt; replace r := r.below hb r.lt; clear hb) | (go_at_call 100; with_reducible refine (W2.out _).mono ?_; rintro e w3 ⟨rfl, hb⟩; replace hB := hB.trans (hb.mono hB.size); replace v := v.below hb v.lt; replace r := r.below hb r.lt; clear hb))
  have lt_v := v.lt
  have lt_r := r.lt
  have hW0 : w.heap.size ≤ w2.heap.size := by simpa using hB.size
  apply wp_region_Q 3 [0, 1, 3] [] [_, (fun _ => undef), _] (fun p L w' => w2.heap.size ≤ w'.heap.size ∧ Below w.heap.size w w' ∧ blk w' w.heap.size (sec V) 46 ∧ blk w' (w.heap.size + 1) (bif L 1 then (qfn (fun _ => 0)) else (qfn fun _ => 0)) 22) _ [(0, 40), (2, 7)] [0, 1, 2]
  case hn => rfl
  case hB => kernel_rfl
  case hds => kernel_rfl
  case hA => (intro p; simp only [putsD, Act.put, sIT, sCZ, sCS, List.getD_cons_zero, List.getD_cons_succ]; exact rfl)
  case h0 => exact fun p => ⟨Nat.le_refl _, hB, v, r⟩
  case hmore => exact fun p L w1 w2 ⟨hsz, hB, v, r⟩ hm => ⟨Nat.le_trans hsz hm.size, hB.trans (hm.mono (Nat.le_trans hW0 hsz)), v.below hm v.lt, r.below hm r.lt⟩
  case hs =>
    intro more
    refine stepV 0 rfl rfl (fun _ _ _ h => h) ?_ ?_
    · intros; (try simp only [vfn, qfn]); go_simp; exact ⟨rfl, rfl⟩
    refine AllI.cons ?_ ?_
    · refine stepI_store 1 rfl (fun p => rfl) (fun p => rfl) _ _ _ rfl (fun _ => (w.heap.size + 1)) 0 (fun p => rfl) (fun p => (qfn (fun _ => 0))) (fun p => congrArg Value.agg zero_spd) (fun p => (qfn fun _ => 0)) (fun p => (qfn (fun _ => 0))) 22 (fun p => over_qq _ _) (fun p => by first | (rw [qfn_size, qfn_size]; decide) | simp [qfn_size, qfn_size]) (fun p => by rw [qfn_size]; kernel_rfl) (fun p => qfn_one _) ?_ ?_
      · rintro p L w1 ⟨hsz, hB, v, r⟩ hk
        have L1 : L 1 = false := hk.1
        rw [L1] at r
        try simp only [cond_true, cond_false] at r
        exact r
      · rintro p L w1 ⟨hsz, hB, v, r⟩ hk
        have L1 : L 1 = false := hk.1
        skip
        refine ⟨(by simpa using hsz), Below.setRow hB (by first | exact Nat.le_trans hW0 hp.1 | exact ge_r | omega | (have := hB.size; simp at this ⊢; omega)) _, v.rowOther (by first | exact ne_v_r | exact Ne.symm ne_r_v | omega) _, ?_⟩
        rw [show upL L 1 1 = true from rfl]
        exact r.row _
    refine stepV _ rfl rfl (fun _ _ _ h => h) (by intros; go_simp; exact ⟨rfl, rfl⟩) ?_
    exact AllI.nil
  case hV0 => exact fun p q => AllI.nil
  case he =>
  clear hB v r
  rintro p w2r ⟨hsz, hB, v, r⟩
  replace r : blk w2r (w.heap.size + 1) (qfn (fun _ => 0)) 22 := r
  clear lt_v lt_r hsz hW0
  go_wp2_with (fail)
  refine bodyPost_ret (results_vec rfl _ _ _ _ _ _ _ rfl r Try.underlying22 rfl (by first | kernel_rfl | (rw [qfn_size]; kernel_rfl))) rfl ?_
  refine ⟨?_, hB⟩
  rfl
set_option maxRecDepth 100000 in
set_option maxHeartbeats 4000000 in
theorem tstep_g_no3 (X : SSt) (V : SeT) (b  : Nat) (N : Nat) (cs : Array Value) (w : World) (hg : blk w b (ssc X) 56) (hn : newB V.sp V.f = true) (h1 : smallB V.rate 268435456 = true) (h2 : smallB V.sun 2147483648 = false) : Calls Try.prog 57 #[.pointer (some ⟨b, 0, none⟩), .agg (sec V), .func (.func N) #[] cs] w fun e w' => e = .returned (.tuple #[.agg (qfn fun _ => 0), .int .i64 2]) ∧ Below w.heap.size w w' := by
  have WN := Lib.hid (fun w => wnew_ok V.sp V.f w hn)
  have W1 := Lib.hid (fun w => swithin_any V.rate 268435456 w (by omega) (by omega))
  have W2 := Lib.hid (fun w => swithin_any V.sun 2147483648 w (by omega) (by omega))
  rw [h1] at W1
  rw [h2] at W2
  have NN := Lib.hid (fun w' (hb : Below w.heap.size w w') => tnone_any X b w' (hg.below hb hg.lt))
  have gl := hg.lt
  go_enter Try.func57, Try.ntmps57
  go_upto_region 1 with (fail)
  simp only [zero_spd]
  have v : blk ((w.alloc (.cells (sec V) 46)).alloc (.cells (qfn fun _ => 0) 22)) w.heap.size (sec V) 46 := (blk.new _ _ _).alloc _
  have r : blk ((w.alloc (.cells (sec V) 46)).alloc (.cells (qfn fun _ => 0) 22)) (w.heap.size + 1) (qfn fun _ => 0) 22 := blk.new' (by simp)
  have hB : Below w.heap.size w ((w.alloc (.cells (sec V) 46)).alloc (.cells (qfn fun _ => 0) 22)) := by go_grown
  generalize ((w.alloc (.cells (sec V) 46)).alloc (.cells (qfn fun _ => 0) 22)) = w0 at *
  have cf : w0.cell? ⟨w.heap.size, 7, none⟩ = some (.int .i64 V.f) := v.cellIs rfl
  go_upto_region 5 with (first | (go_at_call 56; with_reducible refine (NN.out _ hB).mono ?_; rintro e w9 ⟨rfl, rfl⟩) | (refine wpList_load_part ?hw _ _ rfl _ 3 rfl _ _ v (qfn V.sp) (se_p V) _ Try.underlying22 rfl ?hi ?_; (case hw => (first | rfl | (simp [Region.wanted, yielded]; done))); (case hi => (rw [qfn_size]; kernel_rfl))) | (refine wpList_load_part ?hw _ _ rfl _ 0 rfl _ _ v (vfn V.rate) (se_r V) _ Try.underlying25 rfl ?hi ?_; (case hw => (first | rfl | (simp [Region.wanted, yielded]; done))); (case hi => (rw [vfn_size]; kernel_rfl))) | (refine wpList_load_part ?hw _ _ rfl _ 8 rfl _ _ v (vfn V.sun) (se_s V) _ Try.underlying25 rfl ?hi ?_; (case hw => (first | rfl | (simp [Region.wanted, yielded]; done))); (case hi => (rw [vfn_size]; kernel_rfl))) | (go_at_call 42; with_reducible refine (WN.out _).mono ?_; rintro e w1 ⟨sb, rfl, g, hle, hb⟩; replace hB := hB.trans (hb.mono hB.size); replace v := v.below hb v.lt; replace r := r.below hb r.lt; clear hb) | (go_at_call 100; with_reducible refine (W1.out _).mono ?_; rintro e w2 ⟨rfl, hb⟩; replace hB := hB.trans (hb.mono hB.size); replace v := v.below hb v.lt; replace r := r.below hb r.lt; clear hb) | (go_at_call 100; with_reducible refine (W2.out _).mono ?_; rintro e w3 ⟨rfl, hb⟩; replace hB := hB.trans (hb.mono hB.size); replace v := v.below hb v.lt; replace r := r.below hb r.lt; clear hb))
  have lt_v := v.lt
  have lt_r := r.lt
  have hW0 : w.heap.size ≤ w3.heap.size := by simpa using hB.size
  apply wp_region_Q 3 [0, 1, 3] [] [_, (fun _ => undef), _] (fun p L w' => w3.heap.size ≤ w'.heap.size ∧ Below w.heap.size w w' ∧ blk w' w.heap.size (sec V) 46 ∧ blk w' (w.heap.size + 1) (bif L 1 then (qfn (fun _ => 0)) else (qfn fun _ => 0)) 22) _ [(0, 40), (2, 7)] [0, 1, 2]
  case hn => rfl
  case hB => kernel_rfl
  case hds => kernel_rfl
  case hA => (intro p; simp only [putsD, Act.put, sIT, sCZ, sCS, List.getD_cons_zero, List.getD_cons_succ]; exact rfl)
  case h0 => exact fun p => ⟨Nat.le_refl _, hB, v, r⟩
  case hmore => exact fun p L w1 w2 ⟨hsz, hB, v, r⟩ hm => ⟨Nat.le_trans hsz hm.size, hB.trans (hm.mono (Nat.le_trans hW0 hsz)), v.below hm v.lt, r.below hm r.lt⟩
  case hs =>
    intro more
    refine stepV 0 rfl rfl (fun _ _ _ h => h) ?_ ?_
    · intros; (try simp only [vfn, qfn]); go_simp; exact ⟨rfl, rfl⟩
    refine AllI.cons ?_ ?_
    · refine stepI_store 1 rfl (fun p => rfl) (fun p => rfl) _ _ _ rfl (fun _ => (w.heap.size + 1)) 0 (fun p => rfl) (fun p => (qfn (fun _ => 0))) (fun p => congrArg Value.agg zero_spd) (fun p => (qfn fun _ => 0)) (fun p => (qfn (fun _ => 0))) 22 (fun p => over_qq _ _) (fun p => by first | (rw [qfn_size, qfn_size]; decide) | simp [qfn_size, qfn_size]) (fun p => by rw [qfn_size]; kernel_rfl) (fun p => qfn_one _) ?_ ?_
      · rintro p L w1 ⟨hsz, hB, v, r⟩ hk
        have L1 : L 1 = false := hk.1
        rw [L1] at r
        try simp only [cond_true, cond_false] at r
        exact r
      · rintro p L w1 ⟨hsz, hB, v, r⟩ hk
        have L1 : L 1 = false := hk.1
        skip
        refine ⟨(by simpa using hsz), Below.setRow hB (by first | exact Nat.le_trans hW0 hp.1 | exact ge_r | omega | (have := hB.size; simp at this ⊢; omega)) _, v.rowOther (by first | exact ne_v_r | exact Ne.symm ne_r_v | omega) _, ?_⟩
        rw [show upL L 1 1 = true from rfl]
        exact r.row _
    refine stepV _ rfl rfl (fun _ _ _ h => h) (by intros; go_simp; exact ⟨rfl, rfl⟩) ?_
    exact AllI.nil
  case hV0 => exact fun p q => AllI.nil
  case he =>
  clear hB v r
  rintro p w3r ⟨hsz, hB, v, r⟩
  replace r : blk w3r (w.heap.size + 1) (qfn (fun _ => 0)) 22 := r
  clear lt_v lt_r hsz hW0
  go_wp2_with (fail)
  refine bodyPost_ret (results_vec rfl _ _ _ _ _ _ _ rfl r Try.underlying22 rfl (by first | kernel_rfl | (rw [qfn_size]; kernel_rfl))) rfl ?_
  refine ⟨?_, hB⟩
  rfl
theorem preH_eq {new old : Nat → Int} (h : new = old) (k : Nat) : preH new old k = old := by subst h; funext i; unfold preH; split <;> rfl
set_option maxRecDepth 100000 in
set_option maxHeartbeats 24000000 in
theorem tstep_g_any (X : SSt) (V : SeT) (b  : Nat) (N : Nat) (cs : Array Value) (A To : Nat → Int) (w : World) (hg : blk w b (ssc X) 56) (hk : senseOk V = true) (hD : ∀ i, i < 3 → -4194304 ≤ X.D i ∧ X.D i ≤ 4194304) (hTo : ∀ i, i < 3 → -1099511627776 ≤ To i ∧ To i ≤ 1099511627776) (CW : ∀ w1, Save b b w w1 → blk w1 b (ssc X) 56 → Calls Try.prog N (#[.bool (arrB X V)] ++ cs) w1 fun e w' => e = .returned (.agg (vfn To)) ∧ Below w1.heap.size (w1.setRow b (ssc ⟨X.D, A, X.P, X.g⟩)) w') (HN : ∀ ar w1, Sem.run Try.prog (callFunc N ar) w1 = .ok (.enter N ar) w1) : Calls Try.prog 57 #[.pointer (some ⟨b, 0, none⟩), .agg (sec V), .func (.func N) #[] cs] w fun e w' => e = .returned (.tuple #[.agg (qfn (stC X V To)), .int .i64 0]) ∧ blk w' b (ssc (stX X V A To)) 56 ∧ Save b b w w' := by
  unfold stX stC
  obtain ⟨D2, hD2⟩ : ∃ D2, D2 = stD (arrB X V) X To := ⟨_, rfl⟩
  rw [← hD2]
  have hcs : Hid (X.g = false ∧ arrB X V = false ∨ X.g = true ∧ spdE V.sp X.P = false ∧ arrB X V = false ∨ X.g = true ∧ spdE V.sp X.P = true ∧ arrB X V = true) := by
    unfold arrB Hid; cases X.g <;> cases spdE V.sp X.P <;> simp
  replace hD2 := Lib.hid hD2
  simp only [senseOk, Bool.and_eq_true] at hk
  obtain ⟨hn, h1, h2⟩ := hk
  have hS := (newB_SI hn).1
  have WN := Lib.hid (fun w => wnew_ok V.sp V.f w hn)
  have W1 := Lib.hid (fun w => swithin_any V.rate 268435456 w (by omega) (by omega))
  have W2 := Lib.hid (fun w => swithin_any V.sun 2147483648 w (by omega) (by omega))
  have HR := Lib.hid (fun i hi => (sb_iff _ _).1 ((smallB_iff V.rate _).1 h1 i hi))
  rw [h1] at W1
  rw [h2] at W2
  have SU := Lib.hid (fun w c (hb : blk w c (setc (V.sp, V.f)) 126) => ssum_any V.sp V.f c w hb hS)
  have HS := Lib.hid (fun i hi => sumW_bd hS (i := i) hi)
  have HD := Lib.hid hD
  have HT := Lib.hid hTo
  have AL := Lib.hid (fun w => wall_any (rstF V D2) V.f w)
  rw [show allF (rstF V D2) V.f = stP V D2 from rfl] at AL
  have CM := Lib.hid (fun w c (hb : blk w c (setc (V.sp, V.f)) 126) => scmd_any V.sp V.f c (stP V D2) w hb hS)
  replace HN := Lib.hid HN
  clear hn h1 h2 hS hD hTo
  replace CW := Lib.hid CW
  have NN := Lib.hid (fun w' (hb : Below w.heap.size w w') => tnone_any X b w' (hg.below hb hg.lt))
  have gl := hg.lt
  go_enter Try.func57, Try.ntmps57
  go_upto_region 1 with (fail)
  simp only [zero_spd]
  have v : blk ((w.alloc (.cells (sec V) 46)).alloc (.cells (qfn fun _ => 0) 22)) w.heap.size (sec V) 46 := (blk.new _ _ _).alloc _
  have r : blk ((w.alloc (.cells (sec V) 46)).alloc (.cells (qfn fun _ => 0) 22)) (w.heap.size + 1) (qfn fun _ => 0) 22 := blk.new' (by simp)
  have hB : Below w.heap.size w ((w.alloc (.cells (sec V) 46)).alloc (.cells (qfn fun _ => 0) 22)) := by go_grown
  generalize ((w.alloc (.cells (sec V) 46)).alloc (.cells (qfn fun _ => 0) 22)) = w0 at *
  have cf : w0.cell? ⟨w.heap.size, 7, none⟩ = some (.int .i64 V.f) := v.cellIs rfl
  have hl0 := hB.size
  have lv0 := v.lt
  have lr0 := r.lt
  go_upto_region 4 with (first | (go_at_call 56; with_reducible refine (NN.out _ hB).mono ?_; rintro e w9 ⟨rfl, rfl⟩) | (refine wpList_load_part ?hw _ _ rfl _ 3 rfl _ _ v (qfn V.sp) (se_p V) _ Try.underlying22 rfl ?hi ?_; (case hw => (first | rfl | (simp [Region.wanted, yielded]; done))); (case hi => (rw [qfn_size]; kernel_rfl))) | (go_at_call 42; with_reducible refine (WN.out _).mono ?_; rintro e w1 ⟨sb, rfl, sv, hle, hb⟩; replace hB := hB.trans (hb.mono hB.size); replace v := v.below hb v.lt; replace r := r.below hb r.lt; clear hb))
  clear WN NN cf
  go_upto_region 6 with (first | (refine wpList_load_part ?hw _ _ rfl _ 0 rfl _ _ v (vfn V.rate) (se_r V) _ Try.underlying25 rfl ?hi ?_; (case hw => (first | rfl | (simp [Region.wanted, yielded]; done))); (case hi => (rw [vfn_size]; kernel_rfl))) | (refine wpList_load_part ?hw _ _ rfl _ 8 rfl _ _ v (vfn V.sun) (se_s V) _ Try.underlying25 rfl ?hi ?_; (case hw => (first | rfl | (simp [Region.wanted, yielded]; done))); (case hi => (rw [vfn_size]; kernel_rfl))) | (go_at_call 100; with_reducible refine (W1.out _).mono ?_; rintro e w2 ⟨rfl, hb⟩; replace hB := hB.trans (hb.mono hB.size); replace v := v.below hb v.lt; replace r := r.below hb r.lt; replace sv := sv.below hb sv.lt; clear hb) | (go_at_call 100; with_reducible refine (W2.out _).mono ?_; rintro e w3 ⟨rfl, hb⟩; replace hB := hB.trans (hb.mono hB.size); replace v := v.below hb v.lt; replace r := r.below hb r.lt; replace sv := sv.below hb sv.lt; clear hb))
  clear W1 W2
  have g : blk w3 b (ssc X) 56 := hg.below hB hg.lt
  have hle2 : w.heap.size ≤ sb := by omega
  have ne_sv_g : sb ≠ b := by omega
  have ne_v_g : w.heap.size ≠ b := by omega
  have ne_r_g : (w.heap.size + 1) ≠ b := by omega
  have ne_r_sv : (w.heap.size + 1) ≠ sb := by omega
  have ne_v_sv : w.heap.size ≠ sb := by omega
  clear hg hle hl0 lv0 lr0
  replace hB : Save b b w w3 := Save.of hB
  rcases hcs.out with ⟨hg0, ha⟩ | ⟨hg0, he, ha⟩ | ⟨hg0, he, ha⟩
  case' inl =>
    have HT2 : Hid (D2 = X.D) := by rw [hD2.out, ha]; rfl
    have EQ := hg0
  case' inr.inl =>
    have HT2 : Hid (D2 = X.D) := by rw [hD2.out, ha]; rfl
    have EQ := spdq_eq V.sp X.P
    rw [show ((List.range 4).all fun j => V.sp j == X.P j) = false from he] at EQ
    clear he
  case' inr.inr =>
    have HT2 : Hid (∀ k, D2 k = X.D k + clampV (To k - X.D k) (-262144) 262144) := by rw [hD2.out, ha]; exact fun k => rfl
    have EQ := spdq_eq V.sp X.P
    rw [show ((List.range 4).all fun j => V.sp j == X.P j) = true from he] at EQ
    clear he
  all_goals
    rw [ha] at CW
    clear hcs ha hD2
    replace hg0 := Lib.hid hg0
    have lt_v := v.lt
    have lt_r := r.lt
    have lt_sv := sv.lt
    have lt_g := g.lt
    have hW0 : w.heap.size ≤ w3.heap.size := by simpa using hB.size
    apply wp_region_I 16 [0, 1, 3, 7, 15, 31, 63, 127, 63, 319, 831, 1855, 3903, 8191, 16383, 32767] [] [_, _, _, _, _, _, _, _, _, _, _, _, _, _, _, _] (fun p L w' => w3.heap.size ≤ w'.heap.size ∧ Save b b w w' ∧ blk w' w.heap.size (sec V) 46 ∧ blk w' (w.heap.size + 1) (qfn fun _ => 0) 22 ∧ blk w' sb (setc (V.sp, V.f)) 126 ∧ blk w' b (ssc X) 56) _ [(0, 41), (1, 42), (2, 43), (3, 44), (4, 45), (5, 46), (6, 47), (7, 48), (8, 49), (9, 50), (10, 51), (11, 52), (12, 53), (13, 54), (14, 55), (15, 10)] [0, 1, 2, 3, 4, 5, 6, 7, 8, 9, 10, 11, 12, 13, 14, 15]
    case hn => rfl
    case hm => kernel_rfl
    case hB => kernel_rfl
    case hds => kernel_rfl
    case hA => (intro p; simp only [putsD, Act.put, sIT, sCZ, sCS, List.getD_cons_zero, List.getD_cons_succ]; exact rfl)
    case h0 => exact fun p => ⟨Nat.le_refl _, hB.drew, v.drew, r.drew, sv.drew, g.drew⟩
    case hmore => exact fun p L w1 w2 ⟨hsz, hB, v, r, sv, g⟩ hm => ⟨Nat.le_trans hsz hm.size, hB.trans (hm.mono (Nat.le_trans hW0 hsz)), v.below hm v.lt, r.below hm r.lt, sv.below hm sv.lt, g.below hm g.lt⟩
    case hs =>
      intro more
      iterate 4 (refine stepV _ rfl rfl (fun _ _ _ h => h) (by intros; go_simp; exact ⟨rfl, rfl⟩) ?_)
      refine stepV 4 rfl rfl (fun _ _ _ h => h) ?_ ?_
      · rintro p L w1 ⟨hsz, hB, v, r, sv, g⟩ hk
        have hc := g.cellIs (i := 10) (v := .bool X.g) rfl
        rw [hg0.out] at hc
        go_simp
        exact ⟨rfl, rfl⟩
      refine stepV _ rfl rfl (fun _ _ _ h => h) (by intros; go_simp; exact ⟨rfl, rfl⟩) ?_
      first
        | (iterate 8 (refine AllI.cons (stepI_off _ rfl (fun p => rfl) (fun p => rfl) (fun _ _ _ h => h)) ?_))
        | (refine stepVg _ rfl (fun p => (by first | rfl | (simp [Region.wanted, yielded]; done))) (fun _ _ _ h => h) (by intros; go_simp; exact ⟨rfl, rfl⟩) ?_
           refine stepVg 7 rfl (fun p => (by first | rfl | (simp [Region.wanted, yielded]; done))) (fun _ _ _ h => h) ?_ ?_
           · rintro p L w1 ⟨hsz, hB, v, r, sv, g⟩ hk
             exact valR_part _ _ rfl _ 3 rfl _ _ v (qfn V.sp) (se_p V) _ Try.underlying22 rfl (by rw [qfn_size]; kernel_rfl) rfl
           iterate 4 (refine stepVg _ rfl (fun p => (by first | rfl | (simp [Region.wanted, yielded]; done))) (fun _ _ _ h => h) (by intros; go_simp; exact ⟨rfl, rfl⟩) ?_)
           refine stepVg 12 rfl (fun p => (by first | rfl | (simp [Region.wanted, yielded]; done))) (fun _ _ _ h => h) ?_ ?_
           · rintro p L w1 ⟨hsz, hB, v, r, sv, g⟩ hk
             exact valR_part _ _ rfl _ 6 rfl _ _ g (qfn X.P) (st_p X) _ Try.underlying22 rfl (by rw [qfn_size]; kernel_rfl) rfl
           refine stepVg _ rfl (fun p => (by first | rfl | (simp [Region.wanted, yielded]; done))) (fun _ _ _ h => h) (by intros; go_simp; exact ⟨rfl, rfl⟩) ?_)
      iterate 2 (refine stepV _ rfl rfl (fun _ _ _ h => h) (by intros; go_simp; exact ⟨rfl, rfl⟩) ?_)
      exact AllI.nil
    case hV0 => exact fun p q => AllI.nil
    case he =>
    clear hB v r sv g
    rintro p w3r ⟨hsz, hB, v, r, sv, g⟩
    clear lt_v lt_r lt_sv lt_g hsz hW0 EQ
    go_upto_region 7 with (fail)
    have lt_v := v.lt
    have lt_r := r.lt
    have lt_sv := sv.lt
    have lt_g := g.lt
    have hW0 : w.heap.size ≤ w3r.heap.size := by simpa using hB.size
    apply wp_region_Q 5 [0, 1, 3, 7, 15] [3] [_, _, _, (fun p => .pointer (some ⟨p 3, 0, none⟩)), (fun _ => undef)] (fun p L w' => w3r.heap.size ≤ w'.heap.size ∧ Save b b w w' ∧ blk w' w.heap.size (sec V) 46 ∧ blk w' (w.heap.size + 1) (qfn fun _ => 0) 22 ∧ blk w' sb (setc (V.sp, V.f)) 126 ∧ blk w' b (bif L 2 then (ssc ⟨X.D, A, X.P, X.g⟩) else (ssc X)) 56 ∧ (L 3 = true → w3r.heap.size ≤ p 3 ∧ blk w' (p 3) (bif L 4 then (vfn To) else (vfn fun _ => 0)) 25)) _ [(0, 56), (1, 57), (2, 58), (3, 11)] [0, 1, 2, 3, 4]
    case hn => rfl
    case hB => kernel_rfl
    case hds => kernel_rfl
    case hA => (intro p; simp only [putsD, Act.put, sIT, sCZ, sCS, List.getD_cons_zero, List.getD_cons_succ]; exact rfl)
    case h0 => exact fun p => ⟨Nat.le_refl _, hB, v, r, sv, g, fun h => absurd h (by decide)⟩
    case hmore => exact fun p L w1 w2 ⟨hsz, hB, v, r, sv, g, h_tw⟩ hm => ⟨Nat.le_trans hsz hm.size, hB.trans (hm.mono (Nat.le_trans hW0 hsz)), v.below hm v.lt, r.below hm r.lt, sv.below hm sv.lt, g.below hm g.lt, fun hl => ⟨(h_tw hl).1, (h_tw hl).2.below hm (h_tw hl).2.lt⟩⟩
    case hs =>
      intro more
      iterate 2 (refine stepV _ rfl rfl (fun _ _ _ h => h) (by intros; go_simp; exact ⟨rfl, rfl⟩) ?_)
      refine AllI.cons ?_ ?_
      · refine stepI_mut 2 rfl (fun p => rfl) (fun _ => b) (fun p => (ssc ⟨X.D, A, X.P, X.g⟩)) ?_ ?_
        · rintro p L w1 ⟨hsz, hB, v, r, sv, g, h_tw⟩ hk
          have L2 : L 2 = false := hk.1
          have L4 : L 4 = false := hk.2.2 4 rfl
          rw [L2] at g
          try simp only [cond_true, cond_false] at g
          go_simp
          rw [HN.out]
          simp only [DetR]
          refine (CW.out _ hB g).mono ?_
          rintro e w2 ⟨rfl, h2⟩
          exact ⟨rfl, h2⟩
        · rintro p L w1 w2 ⟨hsz, hB, v, r, sv, g, h_tw⟩ hk hm
          have L2 : L 2 = false := hk.1
          have L4 : L 4 = false := hk.2.2 4 rfl
          refine ⟨Nat.le_trans hsz (by have := hm.size; simpa using this), (hB.row (by first | exact .inr (Nat.le_trans hW0 hp.1) | exact .inr ge_g | exact .inl ⟨Nat.le_refl _, Nat.le_refl _⟩ | omega | (have := hB.size; simp at this ⊢; omega)) _).trans (hm.mono (Nat.le_trans hW0 hsz)), (v.rowOther ne_v_g _).below hm (by simpa using v.lt), (r.rowOther ne_r_g _).below hm (by simpa using r.lt), (sv.rowOther ne_sv_g _).below hm (by simpa using sv.lt), ?_, fun hl => ⟨(h_tw hl).1, ((h_tw hl).2.rowOther (Nat.ne_of_gt (Nat.lt_of_lt_of_le lt_g (h_tw hl).1)) _).below hm (by simpa using (h_tw hl).2.lt)⟩⟩
          rw [show upL L 2 2 = true from rfl]
          exact (g.row _).below hm (by simpa using g.lt)
      refine AllI.cons ?_ ?_
      · refine stepI_alloc 3 rfl (fun p => rfl) rfl (vfn fun _ => 0) 25 (fun p => rfl) ?_ ?_
        · intro p w1
          go_simp
          first | rfl | rw [zero_vec]
        rintro p L w1 ⟨hsz, hB, v, r, sv, g, h_tw⟩ hk
        have L2 : L 2 = true := hk.2.1 2 rfl
        have L4 : L 4 = false := hk.2.2 4 rfl
        refine ⟨Nat.le_trans hsz (by simp), hB.alloc (Nat.le_trans (by first | exact hW0 | (have := hB.size; simp at this ⊢; omega)) hsz) _, v.alloc _, r.alloc _, sv.alloc _, g.alloc _, fun _ => ⟨hsz, ?_⟩⟩
        rw [show upL L 3 4 = false from L4]
        exact blk.new _ _ _
      refine AllI.cons ?_ ?_
      · refine stepI_store 4 rfl (fun p => rfl) (fun p => rfl) _ _ _ rfl (fun p => p 3) 0 (fun p => rfl) (fun p => (vfn To)) (fun p => rfl) (fun p => (vfn fun _ => 0)) (fun p => (vfn To)) 25 (fun p => over_v _ _) (fun p => by first | (rw [vfn_size, vfn_size]; decide) | simp [vfn_size, vfn_size]) (fun p => by rw [vfn_size]; kernel_rfl) (fun p => vfn_one _) ?_ ?_
        · rintro p L w1 ⟨hsz, hB, v, r, sv, g, h_tw⟩ hk
          have L2 : L 2 = true := hk.2.1 2 rfl
          have L4 : L 4 = false := hk.1
          have hh := (h_tw (hk.2.1 3 rfl)).2
          rw [L4] at hh
          try simp only [cond_true, cond_false] at hh
          exact hh
        · rintro p L w1 ⟨hsz, hB, v, r, sv, g, h_tw⟩ hk
          have L2 : L 2 = true := hk.2.1 2 rfl
          have L4 : L 4 = false := hk.1
          skip
          have hp := h_tw (hk.2.1 3 rfl)
          refine ⟨(by simpa using hsz), hB.row (by first | exact .inr (Nat.le_trans hW0 hp.1) | exact .inr ge_tw | exact .inl ⟨Nat.le_refl _, Nat.le_refl _⟩ | omega | (have := hB.size; simp at this ⊢; omega)) _, v.rowOther (by first | exact Nat.ne_of_lt (Nat.lt_of_lt_of_le lt_v hp.1) | omega) _, r.rowOther (by first | exact Nat.ne_of_lt (Nat.lt_of_lt_of_le lt_r hp.1) | omega) _, sv.rowOther (by first | exact Nat.ne_of_lt (Nat.lt_of_lt_of_le lt_sv hp.1) | omega) _, g.rowOther (by first | exact Nat.ne_of_lt (Nat.lt_of_lt_of_le lt_g hp.1) | omega) _, fun _ => ⟨hp.1, ?_⟩⟩
          rw [show upL L 4 4 = true from rfl]
          exact hp.2.row _
      exact AllI.nil
    case hV0 =>
      intro p q
      refine AllI.cons ?_ ?_
      · skip
        iterate 5 (refine AllI.cons (by first | exact .inl rfl | (refine .inr ?_; simp only [List.getD_cons_zero, List.getD_cons_succ]; done) | exact .inr rfl) ?_)
        exact AllI.nil
      exact AllI.nil
    case he =>
    clear hB v r sv g
    rintro p w3rr ⟨hsz, hB, v, r, sv, g, h_tw⟩
    obtain ⟨le_tw, tw⟩ := h_tw rfl
    clear h_tw
    replace g : blk w3rr b (ssc ⟨X.D, A, X.P, X.g⟩) 56 := g
    replace tw : blk w3rr (p 3) (vfn To) 25 := tw
    have ne_v_tw : w.heap.size ≠ p 3 := Nat.ne_of_lt (Nat.lt_of_lt_of_le lt_v le_tw)
    have ne_r_tw : (w.heap.size + 1) ≠ p 3 := Nat.ne_of_lt (Nat.lt_of_lt_of_le lt_r le_tw)
    have ne_sv_tw : sb ≠ p 3 := Nat.ne_of_lt (Nat.lt_of_lt_of_le lt_sv le_tw)
    have ne_g_tw : b ≠ p 3 := Nat.ne_of_lt (Nat.lt_of_lt_of_le lt_g le_tw)
    have ge_tw : w.heap.size ≤ p 3 := Nat.le_trans hW0 le_tw
    generalize p 3 = tw_b at *
    clear lt_v lt_r lt_sv lt_g hsz hW0 CW
    go_upto_region 8 with (fail)
    have lt_v := v.lt
    have lt_r := r.lt
    have lt_sv := sv.lt
    have lt_g := g.lt
    have lt_tw := tw.lt
    have hW0 : w.heap.size ≤ w3rr.heap.size := by simpa using hB.size
    apply wp_region_Q 4 [0, 1, 3, 7] [2] [_, _, (fun p => .pointer (some ⟨p 2, 0, none⟩)), (fun _ => undef)] (fun p L w' => w3rr.heap.size ≤ w'.heap.size ∧ Save b b w w' ∧ blk w' w.heap.size (sec V) 46 ∧ blk w' (w.heap.size + 1) (qfn fun _ => 0) 22 ∧ blk w' sb (setc (V.sp, V.f)) 126 ∧ blk w' b (ssc ⟨X.D, A, X.P, X.g⟩) 56 ∧ blk w' tw_b (vfn To) 25 ∧ (L 2 = true → w3rr.heap.size ≤ p 2 ∧ blk w' (p 2) (bif L 3 then (vfn (sumW V.sp)) else (vfn fun _ => 0)) 25)) _ [(0, 59), (1, 60), (2, 12)] [0, 1, 2, 3]
    case hn => rfl
    case hB => kernel_rfl
    case hds => kernel_rfl
    case hA => (intro p; simp only [putsD, Act.put, sIT, sCZ, sCS, List.getD_cons_zero, List.getD_cons_succ]; exact rfl)
    case h0 => exact fun p => ⟨Nat.le_refl _, hB, v, r, sv, g, tw, fun h => absurd h (by decide)⟩
    case hmore => exact fun p L w1 w2 ⟨hsz, hB, v, r, sv, g, tw, h_rs⟩ hm => ⟨Nat.le_trans hsz hm.size, hB.trans (hm.mono (Nat.le_trans hW0 hsz)), v.below hm v.lt, r.below hm r.lt, sv.below hm sv.lt, g.below hm g.lt, tw.below hm tw.lt, fun hl => ⟨(h_rs hl).1, (h_rs hl).2.below hm (h_rs hl).2.lt⟩⟩
    case hs =>
      intro more
      refine stepV _ rfl rfl (fun _ _ _ h => h) (by intros; go_simp; exact ⟨rfl, rfl⟩) ?_
      refine stepD 1 rfl (fun p => rfl) (fun _ _ _ h => h) more ?_ ?_
      · rintro p L w1 ⟨hsz, hB, v, r, sv, g, tw, h_rs⟩ hk
        have L3 : L 3 = false := hk.2.2 3 rfl
        go_simp
        refine (SU.out _ _ sv).mono ?_
        rintro e w2 ⟨rfl, h2⟩
        first | exact ⟨rfl, h2⟩ | (subst h2; exact ⟨rfl, Below.refl _ _⟩)
      refine AllI.cons ?_ ?_
      · refine stepI_alloc 2 rfl (fun p => rfl) rfl (vfn fun _ => 0) 25 (fun p => rfl) ?_ ?_
        · intro p w1
          go_simp
          first | rfl | rw [zero_vec]
        rintro p L w1 ⟨hsz, hB, v, r, sv, g, tw, h_rs⟩ hk
        have L3 : L 3 = false := hk.2.2 3 rfl
        refine ⟨Nat.le_trans hsz (by simp), hB.alloc (Nat.le_trans (by first | exact hW0 | (have := hB.size; simp at this ⊢; omega)) hsz) _, v.alloc _, r.alloc _, sv.alloc _, g.alloc _, tw.alloc _, fun _ => ⟨hsz, ?_⟩⟩
        rw [show upL L 2 3 = false from L3]
        exact blk.new _ _ _
      refine AllI.cons ?_ ?_
      · refine stepI_store 3 rfl (fun p => rfl) (fun p => rfl) _ _ _ rfl (fun p => p 2) 0 (fun p => rfl) (fun p => (vfn (sumW V.sp))) (fun p => rfl) (fun p => (vfn fun _ => 0)) (fun p => (vfn (sumW V.sp))) 25 (fun p => over_v _ _) (fun p => by first | (rw [vfn_size, vfn_size]; decide) | simp [vfn_size, vfn_size]) (fun p => by rw [vfn_size]; kernel_rfl) (fun p => vfn_one _) ?_ ?_
        · rintro p L w1 ⟨hsz, hB, v, r, sv, g, tw, h_rs⟩ hk
          have L3 : L 3 = false := hk.1
          have hh := (h_rs (hk.2.1 2 rfl)).2
          rw [L3] at hh
          try simp only [cond_true, cond_false] at hh
          exact hh
        · rintro p L w1 ⟨hsz, hB, v, r, sv, g, tw, h_rs⟩ hk
          have L3 : L 3 = false := hk.1
          skip
          have hp := h_rs (hk.2.1 2 rfl)
          refine ⟨(by simpa using hsz), hB.row (by first | exact .inr (Nat.le_trans hW0 hp.1) | exact .inr ge_rs | exact .inl ⟨Nat.le_refl _, Nat.le_refl _⟩ | omega | (have := hB.size; simp at this ⊢; omega)) _, v.rowOther (by first | exact Nat.ne_of_lt (Nat.lt_of_lt_of_le lt_v hp.1) | omega) _, r.rowOther (by first | exact Nat.ne_of_lt (Nat.lt_of_lt_of_le lt_r hp.1) | omega) _, sv.rowOther (by first | exact Nat.ne_of_lt (Nat.lt_of_lt_of_le lt_sv hp.1) | omega) _, g.rowOther (by first | exact Nat.ne_of_lt (Nat.lt_of_lt_of_le lt_g hp.1) | omega) _, tw.rowOther (by first | exact Nat.ne_of_lt (Nat.lt_of_lt_of_le lt_tw hp.1) | omega) _, fun _ => ⟨hp.1, ?_⟩⟩
          rw [show upL L 3 3 = true from rfl]
          exact hp.2.row _
      exact AllI.nil
    case hV0 =>
      intro p q
      refine AllI.cons ?_ ?_
      · skip
        iterate 4 (refine AllI.cons (by first | exact .inl rfl | (refine .inr ?_; simp only [List.getD_cons_zero, List.getD_cons_succ]; done) | exact .inr rfl) ?_)
        exact AllI.nil
      exact AllI.nil
    case he =>
    clear hB v r sv g tw
    rintro p w3rrr ⟨hsz, hB, v, r, sv, g, tw, h_rs⟩
    obtain ⟨le_rs, rs⟩ := h_rs rfl
    clear h_rs
    replace rs : blk w3rrr (p 2) (vfn (sumW V.sp)) 25 := rs
    have ne_v_rs : w.heap.size ≠ p 2 := Nat.ne_of_lt (Nat.lt_of_lt_of_le lt_v le_rs)
    have ne_r_rs : (w.heap.size + 1) ≠ p 2 := Nat.ne_of_lt (Nat.lt_of_lt_of_le lt_r le_rs)
    have ne_sv_rs : sb ≠ p 2 := Nat.ne_of_lt (Nat.lt_of_lt_of_le lt_sv le_rs)
    have ne_g_rs : b ≠ p 2 := Nat.ne_of_lt (Nat.lt_of_lt_of_le lt_g le_rs)
    have ne_tw_rs : tw_b ≠ p 2 := Nat.ne_of_lt (Nat.lt_of_lt_of_le lt_tw le_rs)
    have ge_rs : w.heap.size ≤ p 2 := Nat.le_trans hW0 le_rs
    generalize p 2 = rs_b at *
    clear lt_v lt_r lt_sv lt_g lt_tw hsz hW0 SU
    go_upto_region 9 with (fail)
    have lt_v := v.lt
    have lt_r := r.lt
    have lt_sv := sv.lt
    have lt_g := g.lt
    have lt_tw := tw.lt
    have lt_rs := rs.lt
    have hW0 : w.heap.size ≤ w3rrr.heap.size := by simpa using hB.size
    apply wp_region_Q 6 [0, 1, 3, 7, 15, 31] [] [_, _, _, _, _, _] (fun p L w' => w3rrr.heap.size ≤ w'.heap.size ∧ Save b b w w' ∧ blk w' w.heap.size (sec V) 46 ∧ blk w' (w.heap.size + 1) (qfn fun _ => 0) 22 ∧ blk w' sb (setc (V.sp, V.f)) 126 ∧ blk w' b (ssc ⟨X.D, A, X.P, X.g⟩) 56 ∧ blk w' tw_b (vfn To) 25 ∧ blk w' rs_b (vfn (sumW V.sp)) 25) _ [(0, 61), (1, 62), (2, 63), (3, 64), (4, 65), (5, 66)] [0, 1, 2, 3, 4, 5]
    case hn => rfl
    case hB => kernel_rfl
    case hds => kernel_rfl
    case hA => (intro p; simp only [putsD, Act.put, sIT, sCZ, sCS, List.getD_cons_zero, List.getD_cons_succ]; exact rfl)
    case h0 => exact fun p => ⟨Nat.le_refl _, hB, v, r, sv, g, tw, rs⟩
    case hmore => exact fun p L w1 w2 ⟨hsz, hB, v, r, sv, g, tw, rs⟩ hm => ⟨Nat.le_trans hsz hm.size, hB.trans (hm.mono (Nat.le_trans hW0 hsz)), v.below hm v.lt, r.below hm r.lt, sv.below hm sv.lt, g.below hm g.lt, tw.below hm tw.lt, rs.below hm rs.lt⟩
    case hs =>
      intro more
      iterate 4 (refine stepV _ rfl rfl (fun _ _ _ h => h) (by intros; go_simp; exact ⟨rfl, rfl⟩) ?_)
      refine stepV 4 rfl rfl (fun _ _ _ h => h) ?_ ?_
      · rintro p L w1 ⟨hsz, hB, v, r, sv, g, tw, rs⟩ hk
        exact valR_part _ _ rfl _ 0 rfl _ _ g (vfn X.D) (st_d ⟨X.D, A, X.P, X.g⟩) _ Try.underlying25 rfl (by rw [vfn_size]; kernel_rfl) rfl
      refine stepV _ rfl rfl (fun _ _ _ h => h) (by intros; go_simp; exact ⟨rfl, rfl⟩) ?_
      exact AllI.nil
    case hV0 => exact fun p q => AllI.nil
    case he =>
    clear hB v r sv g tw rs
    rintro p w3rrrr ⟨hsz, hB, v, r, sv, g, tw, rs⟩
    clear lt_v lt_r lt_sv lt_g lt_tw lt_rs hsz hW0
    rw [show vfn (sumW V.sp) = vfn (preH (rstF V D2) (sumW V.sp) 0) from by rw [preH_zero]] at rs
    rw [show ssc ⟨X.D, A, X.P, X.g⟩ = ssc ⟨preH D2 X.D 0, A, X.P, X.g⟩ from by rw [preH_zero]] at g
    go_wp2_with (fail)
    go_loopg [66] 3 (fun g_ iv wr => ∃ k : Nat, g_ + k = 3 ∧ iv = .int .i64 k ∧ blk wr w.heap.size (sec V) 46 ∧ blk wr (w.heap.size + 1) (qfn fun _ => 0) 22 ∧ blk wr sb (setc (V.sp, V.f)) 126 ∧ blk wr b (ssc ⟨preH D2 X.D k, A, X.P, X.g⟩) 56 ∧ blk wr tw_b (vfn To) 25 ∧ blk wr rs_b (vfn (preH (rstF V D2) (sumW V.sp) k)) 25 ∧ Save b b w wr)
    case atStart => exact ⟨0, rfl, rfl, v, r, sv, g, tw, rs, hB⟩
    case round =>
      clear v r sv g tw rs hB
      obtain ⟨k, hk, rfl, v, r, sv, g, tw, rs, hB⟩ := hrel
      by_cases hkn : k < 3
      · have hdk : decide ((k : Int) < 3) = true := decide_eq_true (by omega)
        have hdk' : decide (k < 3) = true := decide_eq_true (by omega)
        have hk3 : (k : Int) < 3 := by omega
        have hw3 : IntKind.i64.wrap ((k : Int) + 1) = ((k + 1 : Nat) : Int) := by rw [IntKind.wrap_i64]; omega
        have hix : Hid (∀ w, (Instr.index 25 (.agg (vfn X.D)) (.int .i64 k)).run Try.prog w = .ok (.int .i64 (X.D k)) w) := fun w => vidx3 X.D hkn w
        have B1 := HD.out k hkn
        have B2 := HT.out k hkn
        have B3 := HR.out k hkn
        have B4 := HS.out k hkn
        have B5 := clampR_bd (To k - X.D k)
        have B6 : -4456448 ≤ D2 k ∧ D2 k ≤ 4456448 := by
          first
          | (have ed := HT2.out k; rw [ed]; omega)
          | (have ed := congrFun HT2.out k; rw [ed]; omega)
        have s1 : V.rate k >>> 2 = V.rate k / 4 := Int.shiftRight_eq_div_pow _ _
        have s2 : IntKind.i64.wrap (V.rate k / 4) = V.rate k / 4 := by rw [IntKind.wrap_i64]; omega
        have s3 : IntKind.i64.wrap (V.rate k / 4 - D2 k) = V.rate k / 4 - D2 k := by rw [IntKind.wrap_i64]; omega
        have s4 : IntKind.i64.wrap (sumW V.sp k + (V.rate k / 4 - D2 k)) = sumW V.sp k + (V.rate k / 4 - D2 k) := by rw [IntKind.wrap_i64]; omega
        have ev : sumW V.sp k + (V.rate k / 4 - D2 k) = rstF V D2 k := rfl
        first
          | (have ed := HT2.out k
             rw [ed] at s3 s4 ev
             have a1 : IntKind.i64.wrap (To k - X.D k) = To k - X.D k := by rw [IntKind.wrap_i64]; omega
             have a2 : IntKind.i64.wrap (X.D k + clampV (To k - X.D k) (-262144) 262144) = X.D k + clampV (To k - X.D k) (-262144) 262144 := by rw [IntKind.wrap_i64]; omega
             have CL := Lib.hid (fun w => clamp_any (To k - X.D k) (-262144) 262144 w)
             clear B1 B2 B3 B4 B5 B6
             replace ed := Lib.hid ed.symm
             replace ev := Lib.hid ev
             have hct : wr.cell? ⟨tw_b, k, none⟩ = some (.int .i64 (To k)) := tw.cellIs (vfn_get _ hkn)
             go_upto_region 14 with (first
               | (go_at_call 80; with_reducible refine (CL.out _).mono ?_; rintro e wr ⟨rfl, rfl⟩)
               | (refine wpList_index ?hw _ _ _ rfl _ rfl k _ rfl rfl _ hix.out ?_; (case hw => (first | rfl | (simp [Region.wanted, yielded]; done)))))
             clear hct CL hix
             have lt_v := v.lt
             have lt_r := r.lt
             have lt_sv := sv.lt
             have lt_g := g.lt
             have lt_tw := tw.lt
             have lt_rs := rs.lt
             have hW0 : w.heap.size ≤ wr.heap.size := by simpa using hB.size
             apply wp_region_Q 8 [0, 1, 3, 7, 15, 31, 63, 127] [] [_, _, _, _, _, _, _, (fun _ => undef)] (fun p L w' => wr.heap.size ≤ w'.heap.size ∧ Save b b w w' ∧ blk w' w.heap.size (sec V) 46 ∧ blk w' (w.heap.size + 1) (qfn fun _ => 0) 22 ∧ blk w' sb (setc (V.sp, V.f)) 126 ∧ blk w' b (bif L 7 then (ssc ⟨preH D2 X.D (k + 1), A, X.P, X.g⟩) else (ssc ⟨preH D2 X.D k, A, X.P, X.g⟩)) 56 ∧ blk w' tw_b (vfn To) 25 ∧ blk w' rs_b (vfn (preH (rstF V D2) (sumW V.sp) k)) 25) _ [(0, 79), (1, 80), (2, 81), (3, 82), (4, 83), (5, 84), (6, 85)] [0, 1, 2, 3, 4, 5, 6, 7]
             case hn => rfl
             case hB => kernel_rfl
             case hds => kernel_rfl
             case hA => (intro p; simp only [putsD, Act.put, sIT, sCZ, sCS, List.getD_cons_zero, List.getD_cons_succ]; exact rfl)
             case h0 => exact fun p => ⟨Nat.le_refl _, hB, v, r, sv, g, tw, rs⟩
             case hmore => exact fun p L w1 w2 ⟨hsz, hB, v, r, sv, g, tw, rs⟩ hm => ⟨Nat.le_trans hsz hm.size, hB.trans (hm.mono (Nat.le_trans hW0 hsz)), v.below hm v.lt, r.below hm r.lt, sv.below hm sv.lt, g.below hm g.lt, tw.below hm tw.lt, rs.below hm rs.lt⟩
             case hs =>
               intro more
               iterate 7 (refine stepV _ rfl rfl (fun _ _ _ h => h) (by intros; go_simp; exact ⟨rfl, rfl⟩) ?_)
               refine AllI.cons ?_ ?_
               · refine stepI_cell 7 rfl (fun p => rfl) (fun p => rfl) (fun _ => b) (k) (fun p => .int .i64 (X.D k + clampV (To k - X.D k) (-262144) 262144)) (fun p => (ssc ⟨preH D2 X.D k, A, X.P, X.g⟩)) (fun p => (ssc ⟨preH D2 X.D (k + 1), A, X.P, X.g⟩)) 56 (fun p => st_pre _ _ _ hkn _ ed.out) ?_ ?_ ?_
                 · rintro p L w1 ⟨hsz, hB, v, r, sv, g, tw, rs⟩ hk
                   have L7 : L 7 = false := hk.1
                   rw [L7] at g
                   try simp only [cond_true, cond_false] at g
                   exact g
                 · intro p w1 hb
                   have fz : w1.frozen? ⟨b, k, none⟩ = false := hb.free _
                   have cz : ∃ u, w1.cell? ⟨b, k, none⟩ = some u := ⟨_, hb.cellIs (st_di _ hkn)⟩
                   obtain ⟨u, cz⟩ := cz
                   go_simp
                   try exact ⟨_, rfl, by first | exact .inl rfl | exact .inr rfl⟩
                 · rintro p L w1 ⟨hsz, hB, v, r, sv, g, tw, rs⟩ hk
                   have L7 : L 7 = false := hk.1
                   refine ⟨(by simpa using hsz), hB.row (by first | exact .inr (Nat.le_trans hW0 hp.1) | exact .inr ge_g | exact .inl ⟨Nat.le_refl _, Nat.le_refl _⟩ | omega | (have := hB.size; simp at this ⊢; omega)) _, v.rowOther ne_v_g _, r.rowOther ne_r_g _, sv.rowOther ne_sv_g _, ?_, tw.rowOther (Ne.symm ne_g_tw) _, rs.rowOther (Ne.symm ne_g_rs) _⟩
                   rw [show upL L 7 7 = true from rfl]
                   exact g.row _
               exact AllI.nil
             case hV0 => exact fun p q => AllI.nil
             case' he =>
             clear hB v r sv g tw rs
             rintro p wr ⟨hsz, hB, v, r, sv, g, tw, rs⟩
             replace g : blk wr b (ssc ⟨preH D2 X.D (k + 1), A, X.P, X.g⟩) 56 := g
             clear lt_v lt_r lt_sv lt_g lt_tw lt_rs hsz hW0
             go_upto_region 15 with (fail))
          | (have ed := HT2.out
             rw [congrFun ed k] at s3 s4 ev
             clear B1 B2 B3 B4 B5 B6
             replace ev := Lib.hid ev
             replace ed := Lib.hid ed
             go_upto_region 15 with (refine wpList_index ?hw _ _ _ rfl _ rfl k _ rfl rfl _ hix.out ?_; (case hw => (first | rfl | (simp [Region.wanted, yielded]; done))))
             clear hix
             rw [preH_eq ed.out, ← preH_eq ed.out (k + 1)] at g)
        have lt_v := v.lt
        have lt_r := r.lt
        have lt_sv := sv.lt
        have lt_g := g.lt
        have lt_tw := tw.lt
        have lt_rs := rs.lt
        have hW0 : w.heap.size ≤ wr.heap.size := by simpa using hB.size
        apply wp_region_I 13 [0, 1, 3, 0, 0, 24, 56, 120, 0, 504, 1023, 2047, 4095] [] [_, _, _, _, _, _, _, _, _, _, _, _, (fun _ => undef)] (fun p L w' => wr.heap.size ≤ w'.heap.size ∧ Save b b w w' ∧ blk w' w.heap.size (sec V) 46 ∧ blk w' (w.heap.size + 1) (qfn fun _ => 0) 22 ∧ blk w' sb (setc (V.sp, V.f)) 126 ∧ blk w' b (ssc ⟨preH D2 X.D (k + 1), A, X.P, X.g⟩) 56 ∧ blk w' tw_b (vfn To) 25 ∧ blk w' rs_b (bif L 12 then (vfn (preH (rstF V D2) (sumW V.sp) (k + 1))) else (vfn (preH (rstF V D2) (sumW V.sp) k))) 25) _ [(0, 86), (1, 87), (2, 88), (3, 89), (4, 90), (5, 91), (6, 92), (7, 93), (8, 94), (9, 95), (10, 96), (11, 97)] [0, 1, 2, 3, 4, 5, 6, 7, 8, 9, 10, 11, 12]
        case hn => rfl
        case hm => kernel_rfl
        case hB => kernel_rfl
        case hds => kernel_rfl
        case hA => (intro p; simp only [putsD, Act.put, sIT, sCZ, sCS, List.getD_cons_zero, List.getD_cons_succ]; exact rfl)
        case h0 => exact fun p => ⟨Nat.le_refl _, hB.drew, v.drew, r.drew, sv.drew, g.drew, tw.drew, rs.drew⟩
        case hmore => exact fun p L w1 w2 ⟨hsz, hB, v, r, sv, g, tw, rs⟩ hm => ⟨Nat.le_trans hsz hm.size, hB.trans (hm.mono (Nat.le_trans hW0 hsz)), v.below hm v.lt, r.below hm r.lt, sv.below hm sv.lt, g.below hm g.lt, tw.below hm tw.lt, rs.below hm rs.lt⟩
        case hs =>
          intro more
          iterate 2 (refine stepV _ rfl rfl (fun _ _ _ h => h) (by intros; go_simp; exact ⟨rfl, rfl⟩) ?_)
          refine stepV 2 rfl rfl (fun _ _ _ h => h) ?_ ?_
          · rintro p L w1 ⟨hsz, hB, v, r, sv, g, tw, rs⟩ hk
            have L12 : L 12 = false := hk.2.2 12 rfl
            rw [L12] at rs
            try simp only [cond_true, cond_false] at rs
            have hc : w1.cell? ⟨rs_b, k, none⟩ = some (.int .i64 (sumW V.sp k)) := by have := rs.cellIs (vfn_get _ hkn); rw [preH_ge (Nat.le_refl k)] at this; exact this
            go_simp
            exact ⟨rfl, rfl⟩
          iterate 3 (refine stepV _ rfl rfl (fun _ _ _ h => h) (by intros; go_simp; exact ⟨rfl, rfl⟩) ?_)
          refine stepV 6 rfl rfl (fun _ _ _ h => h) ?_ ?_
          · rintro p L w1 ⟨hsz, hB, v, r, sv, g, tw, rs⟩ hk
            have L12 : L 12 = false := hk.2.2 12 rfl
            have hc : w1.cell? ⟨w.heap.size, k, none⟩ = some (.int .i64 (V.rate k)) := v.cellIs (se_ri V hkn)
            go_simp
            exact ⟨rfl, rfl⟩
          iterate 5 (refine stepV _ rfl rfl (fun _ _ _ h => h) (by intros; go_simp; exact ⟨rfl, rfl⟩) ?_)
          refine AllI.cons ?_ ?_
          · refine stepI_cell 12 rfl (fun p => rfl) (fun p => rfl) (fun _ => rs_b) (k) (fun p => .int .i64 _) (fun p => (vfn (preH (rstF V D2) (sumW V.sp) k))) (fun p => (vfn (preH (rstF V D2) (sumW V.sp) (k + 1)))) 25 (fun p => v_pre hkn _ ev.out) ?_ ?_ ?_
            · rintro p L w1 ⟨hsz, hB, v, r, sv, g, tw, rs⟩ hk
              have L12 : L 12 = false := hk.1
              rw [L12] at rs
              try simp only [cond_true, cond_false] at rs
              exact rs
            · intro p w1 hb
              have fz : w1.frozen? ⟨rs_b, k, none⟩ = false := hb.free _
              have cz : ∃ u, w1.cell? ⟨rs_b, k, none⟩ = some u := ⟨_, hb.cellIs (vfn_get _ hkn)⟩
              obtain ⟨u, cz⟩ := cz
              go_simp
              try exact ⟨_, rfl, by first | exact .inl rfl | exact .inr rfl⟩
            · rintro p L w1 ⟨hsz, hB, v, r, sv, g, tw, rs⟩ hk
              have L12 : L 12 = false := hk.1
              refine ⟨(by simpa using hsz), hB.row (by first | exact .inr (Nat.le_trans hW0 hp.1) | exact .inr ge_rs | exact .inl ⟨Nat.le_refl _, Nat.le_refl _⟩ | omega | (have := hB.size; simp at this ⊢; omega)) _, v.rowOther ne_v_rs _, r.rowOther ne_r_rs _, sv.rowOther ne_sv_rs _, g.rowOther ne_g_rs _, tw.rowOther ne_tw_rs _, ?_⟩
              rw [show upL L 12 12 = true from rfl]
              exact rs.row _
          exact AllI.nil
        case hV0 => exact fun p q => AllI.nil
        case he =>
        clear hB v r sv g tw rs
        rintro p wrrr ⟨hsz, hB, v, r, sv, g, tw, rs⟩
        replace rs : blk wrrr rs_b (vfn (preH (rstF V D2) (sumW V.sp) (k + 1))) 25 := rs
        clear lt_v lt_r lt_sv lt_g lt_tw lt_rs hsz hW0
        go_wp2_with (fail)
        go_roundg (3 - (k + 1))
        case rel =>
          exact ⟨k + 1, by omega, rfl, v, r, sv, g, tw, rs, hB⟩
        case measure => omega
      · obtain rfl : k = 3 := by omega
        rw [v_pre3] at rs
        rw [st_pre3] at g
        go_upto_region 17 with (fail)
        have lt_v := v.lt
        have lt_r := r.lt
        have lt_sv := sv.lt
        have lt_g := g.lt
        have lt_tw := tw.lt
        have lt_rs := rs.lt
        have hW0 : w.heap.size ≤ wr.heap.size := by simpa using hB.size
        apply wp_region_Q 12 [0, 1, 3, 7, 15, 31, 63, 127, 255, 511, 1023, 2047] [] [_, _, _, _, _, _, _, _, _, _, _, (fun _ => undef)] (fun p L w' => wr.heap.size ≤ w'.heap.size ∧ Save b b w w' ∧ blk w' w.heap.size (sec V) 46 ∧ blk w' (w.heap.size + 1) (qfn fun _ => 0) 22 ∧ blk w' sb (setc (V.sp, V.f)) 126 ∧ blk w' b (bif L 11 then (ssc ⟨D2, A, (stP V D2), X.g⟩) else (ssc ⟨D2, A, X.P, X.g⟩)) 56 ∧ blk w' tw_b (vfn To) 25 ∧ blk w' rs_b (vfn (rstF V D2)) 25) _ [(0, 100), (1, 101), (2, 102), (3, 103), (4, 104), (5, 99), (6, 105), (7, 106), (8, 107), (9, 108), (10, 109)] [0, 1, 2, 3, 4, 5, 6, 7, 8, 9, 10, 11]
        case hn => rfl
        case hB => kernel_rfl
        case hds => kernel_rfl
        case hA => (intro p; simp only [putsD, Act.put, sIT, sCZ, sCS, List.getD_cons_zero, List.getD_cons_succ]; exact rfl)
        case h0 => exact fun p => ⟨Nat.le_refl _, hB, v, r, sv, g, tw, rs⟩
        case hmore => exact fun p L w1 w2 ⟨hsz, hB, v, r, sv, g, tw, rs⟩ hm => ⟨Nat.le_trans hsz hm.size, hB.trans (hm.mono (Nat.le_trans hW0 hsz)), v.below hm v.lt, r.below hm r.lt, sv.below hm sv.lt, g.below hm g.lt, tw.below hm tw.lt, rs.below hm rs.lt⟩
        case hs =>
          intro more
          refine stepV _ rfl rfl (fun _ _ _ h => h) (by intros; go_simp; exact ⟨rfl, rfl⟩) ?_
          refine stepV 1 rfl rfl (fun _ _ _ h => h) ?_ ?_
          · rintro p L w1 ⟨hsz, hB, v, r, sv, g, tw, rs⟩ hk
            have L11 : L 11 = false := hk.2.2 11 rfl
            first | exact valR_row _ _ rfl _ rfl _ _ rs _ Try.underlying25 rfl (by first | kernel_rfl | (rw [vfn_size]; kernel_rfl)) rfl | (have hc := rs.cellIs (vfn_get _ (show 0 < 3 by omega)); go_simp; exact ⟨rfl, rfl⟩)
          refine stepV _ rfl rfl (fun _ _ _ h => h) (by intros; go_simp; exact ⟨rfl, rfl⟩) ?_
          refine stepV 3 rfl rfl (fun _ _ _ h => h) ?_ ?_
          · rintro p L w1 ⟨hsz, hB, v, r, sv, g, tw, rs⟩ hk
            have L11 : L 11 = false := hk.2.2 11 rfl
            have hc : w1.cell? ⟨w.heap.size, 7, none⟩ = some (.int .i64 V.f) := v.cellIs rfl
            go_simp
            exact ⟨rfl, rfl⟩
          refine stepD 4 rfl (fun p => rfl) (fun _ _ _ h => h) more ?_ ?_
          · rintro p L w1 ⟨hsz, hB, v, r, sv, g, tw, rs⟩ hk
            go_simp
            refine (AL.out _).mono ?_
            rintro e w2 ⟨rfl, h2⟩
            first | exact ⟨rfl, h2⟩ | (subst h2; exact ⟨rfl, Below.refl _ _⟩)
          iterate 6 (refine stepV _ rfl rfl (fun _ _ _ h => h) (by intros; go_simp; exact ⟨rfl, rfl⟩) ?_)
          refine AllI.cons ?_ ?_
          · refine stepI_store 11 rfl (fun p => rfl) (fun p => rfl) _ _ _ rfl (fun _ => b) 6 (fun p => rfl) (fun p => (qfn (stP V D2))) (fun p => rfl) (fun p => (ssc ⟨D2, A, X.P, X.g⟩)) (fun p => (ssc ⟨D2, A, (stP V D2), X.g⟩)) 56 (fun p => over_sp _ _ _ _ _) (fun p => by first | (rw [qfn_size, ssc_size]; decide) | simp [qfn_size, ssc_size]) (fun p => by rw [qfn_size]; kernel_rfl) (fun p => qfn_one _) ?_ ?_
            · rintro p L w1 ⟨hsz, hB, v, r, sv, g, tw, rs⟩ hk
              have L11 : L 11 = false := hk.1
              rw [L11] at g
              try simp only [cond_true, cond_false] at g
              exact g
            · rintro p L w1 ⟨hsz, hB, v, r, sv, g, tw, rs⟩ hk
              have L11 : L 11 = false := hk.1
              skip
              refine ⟨(by simpa using hsz), hB.row (by first | exact .inr (Nat.le_trans hW0 hp.1) | exact .inr ge_g | exact .inl ⟨Nat.le_refl _, Nat.le_refl _⟩ | omega | (have := hB.size; simp at this ⊢; omega)) _, v.rowOther ne_v_g _, r.rowOther ne_r_g _, sv.rowOther ne_sv_g _, ?_, tw.rowOther (Ne.symm ne_g_tw) _, rs.rowOther (Ne.symm ne_g_rs) _⟩
              rw [show upL L 11 11 = true from rfl]
              exact g.row _
          exact AllI.nil
        case hV0 => exact fun p q => AllI.nil
        case he =>
        clear hB v r sv g tw rs
        rintro p wrr ⟨hsz, hB, v, r, sv, g, tw, rs⟩
        replace g : blk wrr b (ssc ⟨D2, A, (stP V D2), X.g⟩) 56 := g
        clear lt_v lt_r lt_sv lt_g lt_tw lt_rs hsz hW0
        go_upto_region 18 with (fail)
        have lt_v := v.lt
        have lt_r := r.lt
        have lt_sv := sv.lt
        have lt_g := g.lt
        have lt_tw := tw.lt
        have lt_rs := rs.lt
        have hW0 : w.heap.size ≤ wrr.heap.size := by simpa using hB.size
        apply wp_region_Q 5 [0, 1, 3, 7, 15] [] [_, _, _, _, (fun _ => undef)] (fun p L w' => wrr.heap.size ≤ w'.heap.size ∧ Save b b w w' ∧ blk w' w.heap.size (sec V) 46 ∧ blk w' (w.heap.size + 1) (qfn fun _ => 0) 22 ∧ blk w' sb (setc (V.sp, V.f)) 126 ∧ blk w' b (bif L 4 then (ssc ⟨D2, A, (stP V D2), true⟩) else (ssc ⟨D2, A, (stP V D2), X.g⟩)) 56 ∧ blk w' tw_b (vfn To) 25 ∧ blk w' rs_b (vfn (rstF V D2)) 25) _ [(0, 110), (1, 111), (2, 112), (3, 113)] [0, 1, 2, 3, 4]
        case hn => rfl
        case hB => kernel_rfl
        case hds => kernel_rfl
        case hA => (intro p; simp only [putsD, Act.put, sIT, sCZ, sCS, List.getD_cons_zero, List.getD_cons_succ]; exact rfl)
        case h0 => exact fun p => ⟨Nat.le_refl _, hB, v, r, sv, g, tw, rs⟩
        case hmore => exact fun p L w1 w2 ⟨hsz, hB, v, r, sv, g, tw, rs⟩ hm => ⟨Nat.le_trans hsz hm.size, hB.trans (hm.mono (Nat.le_trans hW0 hsz)), v.below hm v.lt, r.below hm r.lt, sv.below hm sv.lt, g.below hm g.lt, tw.below hm tw.lt, rs.below hm rs.lt⟩
        case hs =>
          intro more
          iterate 4 (refine stepV _ rfl rfl (fun _ _ _ h => h) (by intros; go_simp; exact ⟨rfl, rfl⟩) ?_)
          refine AllI.cons ?_ ?_
          · refine stepI_cell 4 rfl (fun p => rfl) (fun p => rfl) (fun _ => b) (10) (fun p => .bool true) (fun p => (ssc ⟨D2, A, (stP V D2), X.g⟩)) (fun p => (ssc ⟨D2, A, (stP V D2), true⟩)) 56 (fun p => set_g _ _ _ _) ?_ ?_ ?_
            · rintro p L w1 ⟨hsz, hB, v, r, sv, g, tw, rs⟩ hk
              have L4 : L 4 = false := hk.1
              rw [L4] at g
              try simp only [cond_true, cond_false] at g
              exact g
            · intro p w1 hb
              have fz : w1.frozen? ⟨b, 10, none⟩ = false := hb.free _
              have cz : ∃ u, w1.cell? ⟨b, 10, none⟩ = some u := ⟨_, hb.cellIs (rfl)⟩
              obtain ⟨u, cz⟩ := cz
              go_simp
              try exact ⟨_, rfl, by first | exact .inl rfl | exact .inr rfl⟩
            · rintro p L w1 ⟨hsz, hB, v, r, sv, g, tw, rs⟩ hk
              have L4 : L 4 = false := hk.1
              refine ⟨(by simpa using hsz), hB.row (by first | exact .inr (Nat.le_trans hW0 hp.1) | exact .inr ge_g | exact .inl ⟨Nat.le_refl _, Nat.le_refl _⟩ | omega | (have := hB.size; simp at this ⊢; omega)) _, v.rowOther ne_v_g _, r.rowOther ne_r_g _, sv.rowOther ne_sv_g _, ?_, tw.rowOther (Ne.symm ne_g_tw) _, rs.rowOther (Ne.symm ne_g_rs) _⟩
              rw [show upL L 4 4 = true from rfl]
              exact g.row _
          exact AllI.nil
        case hV0 => exact fun p q => AllI.nil
        case he =>
        clear hB v r sv g tw rs
        rintro p wrrr ⟨hsz, hB, v, r, sv, g, tw, rs⟩
        replace g : blk wrrr b (ssc ⟨D2, A, (stP V D2), true⟩) 56 := g
        clear lt_v lt_r lt_sv lt_g lt_tw lt_rs hsz hW0
        go_upto_region 19 with (fail)
        have lt_v := v.lt
        have lt_r := r.lt
        have lt_sv := sv.lt
        have lt_g := g.lt
        have lt_tw := tw.lt
        have lt_rs := rs.lt
        have hW0 : w.heap.size ≤ wrrr.heap.size := by simpa using hB.size
        apply wp_region_Q 9 [0, 1, 3, 7, 15, 31, 63, 127, 255] [] [_, _, _, _, _, _, _, (fun _ => undef), _] (fun p L w' => wrrr.heap.size ≤ w'.heap.size ∧ Save b b w w' ∧ blk w' w.heap.size (sec V) 46 ∧ blk w' (w.heap.size + 1) (bif L 7 then (qfn (cmdF V.sp V.f (stP V D2))) else (qfn fun _ => 0)) 22 ∧ blk w' sb (setc (V.sp, V.f)) 126 ∧ blk w' b (ssc ⟨D2, A, (stP V D2), true⟩) 56 ∧ blk w' tw_b (vfn To) 25 ∧ blk w' rs_b (vfn (rstF V D2)) 25) _ [(0, 114), (1, 115), (2, 116), (3, 117), (4, 118), (5, 119), (6, 120), (8, 7)] [0, 1, 2, 3, 4, 5, 6, 7, 8]
        case hn => rfl
        case hB => kernel_rfl
        case hds => kernel_rfl
        case hA => (intro p; simp only [putsD, Act.put, sIT, sCZ, sCS, List.getD_cons_zero, List.getD_cons_succ]; exact rfl)
        case h0 => exact fun p => ⟨Nat.le_refl _, hB, v, r, sv, g, tw, rs⟩
        case hmore => exact fun p L w1 w2 ⟨hsz, hB, v, r, sv, g, tw, rs⟩ hm => ⟨Nat.le_trans hsz hm.size, hB.trans (hm.mono (Nat.le_trans hW0 hsz)), v.below hm v.lt, r.below hm r.lt, sv.below hm sv.lt, g.below hm g.lt, tw.below hm tw.lt, rs.below hm rs.lt⟩
        case hs =>
          intro more
          iterate 5 (refine stepV _ rfl rfl (fun _ _ _ h => h) (by intros; go_simp; exact ⟨rfl, rfl⟩) ?_)
          refine stepV 5 rfl rfl (fun _ _ _ h => h) ?_ ?_
          · rintro p L w1 ⟨hsz, hB, v, r, sv, g, tw, rs⟩ hk
            have L7 : L 7 = false := hk.2.2 7 rfl
            exact valR_part _ _ rfl _ 6 rfl _ _ g (qfn (stP V D2)) (st_p ⟨D2, A, (stP V D2), true⟩) _ Try.underlying22 rfl (by rw [qfn_size]; kernel_rfl) rfl
          refine stepD 6 rfl (fun p => rfl) (fun _ _ _ h => h) more ?_ ?_
          · rintro p L w1 ⟨hsz, hB, v, r, sv, g, tw, rs⟩ hk
            have L7 : L 7 = false := hk.2.2 7 rfl
            go_simp
            refine (CM.out _ _ sv).mono ?_
            rintro e w2 ⟨rfl, h2⟩
            first | exact ⟨rfl, h2⟩ | (subst h2; exact ⟨rfl, Below.refl _ _⟩)
          refine AllI.cons ?_ ?_
          · refine stepI_store 7 rfl (fun p => rfl) (fun p => rfl) _ _ _ rfl (fun _ => (w.heap.size + 1)) 0 (fun p => rfl) (fun p => (qfn (cmdF V.sp V.f (stP V D2)))) (fun p => rfl) (fun p => (qfn fun _ => 0)) (fun p => (qfn (cmdF V.sp V.f (stP V D2)))) 22 (fun p => over_qq _ _) (fun p => by first | (rw [qfn_size, qfn_size]; decide) | simp [qfn_size, qfn_size]) (fun p => by rw [qfn_size]; kernel_rfl) (fun p => qfn_one _) ?_ ?_
            · rintro p L w1 ⟨hsz, hB, v, r, sv, g, tw, rs⟩ hk
              have L7 : L 7 = false := hk.1
              rw [L7] at r
              try simp only [cond_true, cond_false] at r
              exact r
            · rintro p L w1 ⟨hsz, hB, v, r, sv, g, tw, rs⟩ hk
              have L7 : L 7 = false := hk.1
              skip
              refine ⟨(by simpa using hsz), hB.row (by first | exact .inr (Nat.le_trans hW0 hp.1) | exact .inr ge_r | exact .inl ⟨Nat.le_refl _, Nat.le_refl _⟩ | omega | (have := hB.size; simp at this ⊢; omega)) _, v.rowOther (by first | exact ne_v_r | exact Ne.symm ne_r_v | omega) _, ?_, sv.rowOther (Ne.symm ne_r_sv) _, g.rowOther (Ne.symm ne_r_g) _, tw.rowOther (Ne.symm ne_r_tw) _, rs.rowOther (Ne.symm ne_r_rs) _⟩
              rw [show upL L 7 7 = true from rfl]
              exact r.row _
          refine stepV _ rfl rfl (fun _ _ _ h => h) (by intros; go_simp; exact ⟨rfl, rfl⟩) ?_
          exact AllI.nil
        case hV0 => exact fun p q => AllI.nil
        case he =>
        clear hB v r sv g tw rs
        rintro p wrrrr ⟨hsz, hB, v, r, sv, g, tw, rs⟩
        replace r : blk wrrrr (w.heap.size + 1) (qfn (cmdF V.sp V.f (stP V D2))) 22 := r
        clear lt_v lt_r lt_sv lt_g lt_tw lt_rs hsz hW0
        go_wp2_with (fail)
        refine bodyPost_ret (results_vec rfl _ _ _ _ _ _ _ rfl r Try.underlying22 rfl (by first | kernel_rfl | (rw [qfn_size]; kernel_rfl))) rfl ?_
        exact ⟨rfl, g, hB⟩
theorem tstep_g_no (X : SSt) (V : SeT) (b  : Nat) (N : Nat) (cs : Array Value) (w : World) (hg : blk w b (ssc X) 56) (hk : senseOk V = false) :
    Calls Try.prog 57 #[.pointer (some ⟨b, 0, none⟩), .agg (sec V), .func (.func N) #[] cs] w fun e w' => e = .returned (.tuple #[.agg (qfn fun _ => 0), .int .i64 2]) ∧ Below w.heap.size w w' := by
  unfold senseOk at hk
  cases hn : newB V.sp V.f with
  | false => exact tstep_g_no1 X V b  N cs w hg hn
  | true =>
    cases h1 : smallB V.rate 268435456 with
    | false => exact tstep_g_no2 X V b  N cs w hg hn h1
    | true =>
      cases h2 : smallB V.sun 2147483648 with
      | false => exact tstep_g_no3 X V b  N cs w hg hn h1 h2
      | true => rw [hn, h1, h2] at hk; cases hk
end Go.Proofs.Ytjnocbjngojigaa
