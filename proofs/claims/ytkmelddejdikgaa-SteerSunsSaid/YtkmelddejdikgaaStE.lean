/-
  Controls: a step (N). Controls: Rest. Controls: what Sun wants. Controls: Sun, Point.
-/
import Derived.Test.YtkmelddejdikgaaStA
import Derived.Test.YtkmelddejdikgaaStC
import Derived.Test.YtkmelddejdikgaaVecI
import Derived.Test.YtkmelddejdikgaaBet
set_option linter.unusedSimpArgs false
set_option linter.unusedVariables false
namespace Go.Proofs.Ytkmelddejdikgaa
open Go.RowKit PM Dt
theorem preH_eq {new old : Nat → Int} (h : new = old) (k : Nat) : preH new old k = old := by subst h; funext i; unfold preH; split <;> rfl
set_option maxRecDepth 100000 in
set_option maxHeartbeats 24000000 in
theorem tstep_g_any (X : SSt) (V : SeT) (b  : Nat) (N : Nat) (cs : Array Value) (A To : Nat → Int) (w : World) (hg : blk w b (ssc X) 205) (hk : senseOk V = true) (hD : ∀ i, i < 3 → -4194304 ≤ X.D i ∧ X.D i ≤ 4194304) (hTo : ∀ i, i < 3 → -1099511627776 ≤ To i ∧ To i ≤ 1099511627776) (CW : ∀ w1, Save b b w w1 → blk w1 b (ssc X) 205 → Calls Try.prog N (#[.bool (arrB X V)] ++ cs) w1 fun e w' => e = .returned (.agg (vfn To)) ∧ Below w1.heap.size (w1.setRow b (ssc ⟨X.D, A, X.P, X.g⟩)) w') (HN : ∀ ar w1, Sem.run Try.prog (callFunc N ar) w1 = .ok (.enter N ar) w1) : Calls Try.prog 142 #[.pointer (some ⟨b, 0, none⟩), .agg (sec V), .func (.func N) #[] cs] w fun e w' => e = .returned (.tuple #[.agg (qfn (stC X V To)), .int .i64 0]) ∧ blk w' b (ssc (stX X V A To)) 205 ∧ Save b b w w' := by
  unfold stX stC
  obtain ⟨D2, hD2⟩ : ∃ D2, D2 = stD (arrB X V) X To := ⟨_, rfl⟩
  rw [← hD2]
  have hcs : Hid (X.g = false ∧ arrB X V = false ∨ X.g = true ∧ spdE V.sp X.P = false ∧ arrB X V = false ∨ X.g = true ∧ spdE V.sp X.P = true ∧ arrB X V = true) := by
    unfold arrB Hid; cases X.g <;> cases spdE V.sp X.P <;> simp
  replace hD2 := Lib.hid hD2
  simp only [senseOk, Bool.and_eq_true] at hk
  obtain ⟨hn, h1, h2⟩ := hk
  have hS := (newB_SI hn).1
  have WN := Lib.hid (fun w => wnew_ok V.sp V.f w hn)
  have W1 := Lib.hid (fun w => swithin_any V.rate 268435456 w (by omega) (by omega))
  have W2 := Lib.hid (fun w => swithin_any V.sun 2147483648 w (by omega) (by omega))
  have HR := Lib.hid (fun i hi => (sb_iff _ _).1 ((smallB_iff V.rate _).1 h1 i hi))
  rw [h1] at W1
  rw [h2] at W2
  have SU := Lib.hid (fun w c (hb : blk w c (setc (V.sp, V.f)) 230) => ssum_any V.sp V.f c w hb hS)
  have HS := Lib.hid (fun i hi => sumW_bd hS (i := i) hi)
  have HD := Lib.hid hD
  have HT := Lib.hid hTo
  have AL := Lib.hid (fun w => wall_any (rstF V D2) V.f w)
  rw [show allF (rstF V D2) V.f = stP V D2 from rfl] at AL
  have CM := Lib.hid (fun w c (hb : blk w c (setc (V.sp, V.f)) 230) => scmd_any V.sp V.f c (stP V D2) w hb hS)
  replace HN := Lib.hid HN
  clear hn h1 h2 hS hD hTo
  replace CW := Lib.hid CW
  have NN := Lib.hid (fun w' (hb : Below w.heap.size w w') => tnone_any X b w' (hg.below hb hg.lt))
  have gl := hg.lt
  go_enter Try.func142, Try.ntmps142
  go_upto_region 1 with (fail)
  simp only [zero_spd]
  have v : blk ((w.alloc (.cells (sec V) 85)).alloc (.cells (qfn fun _ => 0) 22)) w.heap.size (sec V) 85 := (blk.new _ _ _).alloc _
  have r : blk ((w.alloc (.cells (sec V) 85)).alloc (.cells (qfn fun _ => 0) 22)) (w.heap.size + 1) (qfn fun _ => 0) 22 := blk.new' (by simp)
  have hB : Below w.heap.size w ((w.alloc (.cells (sec V) 85)).alloc (.cells (qfn fun _ => 0) 22)) := by go_grown
  generalize ((w.alloc (.cells (sec V) 85)).alloc (.cells (qfn fun _ => 0) 22)) = w0 at *
  have cf : w0.cell? ⟨w.heap.size, 7, none⟩ = some (.int .i64 V.f) := v.cellIs rfl
  have hl0 := hB.size
  have lv0 := v.lt
  have lr0 := r.lt
  go_upto_region 4 with (first | (go_at_call 147; with_reducible refine (NN.out _ hB).mono ?_; rintro e w9 ⟨rfl, rfl⟩) | (refine wpList_load_part ?hw _ _ rfl _ 3 rfl _ _ v (qfn V.sp) (se_p V) _ Try.underlying22 rfl ?hi ?_; (case hw => (first | rfl | (simp [Region.wanted, yielded]; done))); (case hi => (rw [qfn_size]; kernel_rfl))) | (go_at_call 140; with_reducible refine (WN.out _).mono ?_; rintro e w1 ⟨sb, rfl, sv, hle, hb⟩; replace hB := hB.trans (hb.mono hB.size); replace v := v.below hb v.lt; replace r := r.below hb r.lt; clear hb))
  clear WN NN cf
  go_upto_region 6 with (first | (refine wpList_load_part ?hw _ _ rfl _ 0 rfl _ _ v (vfn V.rate) (se_r V) _ Try.underlying31 rfl ?hi ?_; (case hw => (first | rfl | (simp [Region.wanted, yielded]; done))); (case hi => (rw [vfn_size]; kernel_rfl))) | (refine wpList_load_part ?hw _ _ rfl _ 8 rfl _ _ v (vfn V.sun) (se_s V) _ Try.underlying31 rfl ?hi ?_; (case hw => (first | rfl | (simp [Region.wanted, yielded]; done))); (case hi => (rw [vfn_size]; kernel_rfl))) | (go_at_call 179; with_reducible refine (W1.out _).mono ?_; rintro e w2 ⟨rfl, hb⟩; replace hB := hB.trans (hb.mono hB.size); replace v := v.below hb v.lt; replace r := r.below hb r.lt; replace sv := sv.below hb sv.lt; clear hb) | (go_at_call 179; with_reducible refine (W2.out _).mono ?_; rintro e w3 ⟨rfl, hb⟩; replace hB := hB.trans (hb.mono hB.size); replace v := v.below hb v.lt; replace r := r.below hb r.lt; replace sv := sv.below hb sv.lt; clear hb))
  clear W1 W2
  have g : blk w3 b (ssc X) 205 := hg.below hB hg.lt
  have hle2 : w.heap.size ≤ sb := by omega
  have ne_sv_g : sb ≠ b := by omega
  have ne_v_g : w.heap.size ≠ b := by omega
  have ne_r_g : (w.heap.size + 1) ≠ b := by omega
  have ne_r_sv : (w.heap.size + 1) ≠ sb := by omega
  have ne_v_sv : w.heap.size ≠ sb := by omega
  clear hg hle hl0 lv0 lr0
  replace hB : Save b b w w3 := Save.of hB
  rcases hcs.out with ⟨hg0, ha⟩ | ⟨hg0, he, ha⟩ | ⟨hg0, he, ha⟩
  case' inl =>
    have HT2 : Hid (D2 = X.D) := by rw [hD2.out, ha]; rfl
    have EQ := hg0
  case' inr.inl =>
    have HT2 : Hid (D2 = X.D) := by rw [hD2.out, ha]; rfl
    have EQ := spdq_eq V.sp X.P
    rw [show ((List.range 4).all fun j => V.sp j == X.P j) = false from he] at EQ
    clear he
  case' inr.inr =>
    have HT2 : Hid (∀ k, D2 k = X.D k + clampV (To k - X.D k) (-262144) 262144) := by rw [hD2.out, ha]; exact fun k => rfl
    have EQ := spdq_eq V.sp X.P
    rw [show ((List.range 4).all fun j => V.sp j == X.P j) = true from he] at EQ
    clear he
  all_goals
    rw [ha] at CW
    clear hcs ha hD2
    replace hg0 := Lib.hid hg0
    have lt_v := v.lt
    have lt_r := r.lt
    have lt_sv := sv.lt
    have lt_g := g.lt
    have hW0 : w.heap.size ≤ w3.heap.size := by simpa using hB.size
    apply wp_region_I 16 [0, 1, 3, 7, 15, 31, 63, 127, 63, 319, 831, 1855, 3903, 8191, 16383, 32767] [] [_, _, _, _, _, _, _, _, _, _, _, _, _, _, _, _] (fun p L w' => w3.heap.size ≤ w'.heap.size ∧ Save b b w w' ∧ blk w' w.heap.size (sec V) 85 ∧ blk w' (w.heap.size + 1) (qfn fun _ => 0) 22 ∧ blk w' sb (setc (V.sp, V.f)) 230 ∧ blk w' b (ssc X) 205) _ [(0, 41), (1, 42), (2, 43), (3, 44), (4, 45), (5, 46), (6, 47), (7, 48), (8, 49), (9, 50), (10, 51), (11, 52), (12, 53), (13, 54), (14, 55), (15, 10)] [0, 1, 2, 3, 4, 5, 6, 7, 8, 9, 10, 11, 12, 13, 14, 15]
    case hn => rfl
    case hm => kernel_rfl
    case hB => kernel_rfl
    case hds => kernel_rfl
    case hA => (intro p; simp only [putsD, Act.put, sIT, sCZ, sCS, gCZ, gCS]; exact rfl)
    case h0 => exact fun p => ⟨Nat.le_refl _, hB.drew, v.drew, r.drew, sv.drew, g.drew⟩
    case hmore => exact fun p L w1 w2 ⟨hsz, hB, v, r, sv, g⟩ hm => ⟨Nat.le_trans hsz hm.size, hB.trans (hm.mono (Nat.le_trans hW0 hsz)), v.below hm v.lt, r.below hm r.lt, sv.below hm sv.lt, g.below hm g.lt⟩
    case hs =>
      intro more
      iterate 4 (refine stepV _ rfl rfl (fun _ _ _ h => h) (by intros; go_simp; exact ⟨rfl, rfl⟩) ?_)
      refine stepV 4 rfl rfl (fun _ _ _ h => h) ?_ ?_
      · rintro p L w1 ⟨hsz, hB, v, r, sv, g⟩ hk
        have hc := g.cellIs (i := 10) (v := .bool X.g) rfl
        rw [hg0.out] at hc
        go_simp
        exact ⟨rfl, rfl⟩
      refine stepV _ rfl rfl (fun _ _ _ h => h) (by intros; go_simp; exact ⟨rfl, rfl⟩) ?_
      first
        | (iterate 8 (refine AllI.cons (stepI_off _ rfl (fun p => rfl) (fun p => rfl) (fun _ _ _ h => h)) ?_))
        | (refine stepVg _ rfl (fun p => (by first | rfl | (simp [Region.wanted, yielded]; done))) (fun _ _ _ h => h) (by intros; go_simp; exact ⟨rfl, rfl⟩) ?_
           refine stepVg 7 rfl (fun p => (by first | rfl | (simp [Region.wanted, yielded]; done))) (fun _ _ _ h => h) ?_ ?_
           · rintro p L w1 ⟨hsz, hB, v, r, sv, g⟩ hk
             exact valR_part _ _ rfl _ 3 rfl _ _ v (qfn V.sp) (se_p V) _ Try.underlying22 rfl (by rw [qfn_size]; kernel_rfl) rfl
           iterate 4 (refine stepVg _ rfl (fun p => (by first | rfl | (simp [Region.wanted, yielded]; done))) (fun _ _ _ h => h) (by intros; go_simp; exact ⟨rfl, rfl⟩) ?_)
           refine stepVg 12 rfl (fun p => (by first | rfl | (simp [Region.wanted, yielded]; done))) (fun _ _ _ h => h) ?_ ?_
           · rintro p L w1 ⟨hsz, hB, v, r, sv, g⟩ hk
             exact valR_part _ _ rfl _ 6 rfl _ _ g (qfn X.P) (st_p X) _ Try.underlying22 rfl (by rw [qfn_size]; kernel_rfl) rfl
           refine stepVg _ rfl (fun p => (by first | rfl | (simp [Region.wanted, yielded]; done))) (fun _ _ _ h => h) (by intros; go_simp; exact ⟨rfl, rfl⟩) ?_)
      iterate 2 (refine stepV _ rfl rfl (fun _ _ _ h => h) (by intros; go_simp; exact ⟨rfl, rfl⟩) ?_)
      exact AllI.nil
    case hV0 => exact fun p q => AllI.nil
    case he =>
    clear hB v r sv g
    rintro p w3r ⟨hsz, hB, v, r, sv, g⟩
    clear lt_v lt_r lt_sv lt_g hsz hW0 EQ
    go_upto_region 7 with (fail)
    have lt_v := v.lt
    have lt_r := r.lt
    have lt_sv := sv.lt
    have lt_g := g.lt
    have hW0 : w.heap.size ≤ w3r.heap.size := by simpa using hB.size
    apply wp_region_Q 5 [0, 1, 3, 7, 15] [3] [_, _, _, (fun p => .pointer (some ⟨p 3, 0, none⟩)), (fun _ => undef)] (fun p L w' => w3r.heap.size ≤ w'.heap.size ∧ Save b b w w' ∧ blk w' w.heap.size (sec V) 85 ∧ blk w' (w.heap.size + 1) (qfn fun _ => 0) 22 ∧ blk w' sb (setc (V.sp, V.f)) 230 ∧ blk w' b (bif L 2 then (ssc ⟨X.D, A, X.P, X.g⟩) else (ssc X)) 205 ∧ (L 3 = true → w3r.heap.size ≤ p 3 ∧ blk w' (p 3) (bif L 4 then (vfn To) else (vfn fun _ => 0)) 31)) _ [(0, 56), (1, 57), (2, 58), (3, 11)] [0, 1, 2, 3, 4]
    case hn => rfl
    case hB => kernel_rfl
    case hds => kernel_rfl
    case hA => (intro p; simp only [putsD, Act.put, sIT, sCZ, sCS, gCZ, gCS]; exact rfl)
    case h0 => exact fun p => ⟨Nat.le_refl _, hB, v, r, sv, g, fun h => absurd h (by decide)⟩
    case hmore => exact fun p L w1 w2 ⟨hsz, hB, v, r, sv, g, h_tw⟩ hm => ⟨Nat.le_trans hsz hm.size, hB.trans (hm.mono (Nat.le_trans hW0 hsz)), v.below hm v.lt, r.below hm r.lt, sv.below hm sv.lt, g.below hm g.lt, fun hl => ⟨(h_tw hl).1, (h_tw hl).2.below hm (h_tw hl).2.lt⟩⟩
    case hs =>
      intro more
      iterate 2 (refine stepV _ rfl rfl (fun _ _ _ h => h) (by intros; go_simp; exact ⟨rfl, rfl⟩) ?_)
      refine AllI.cons ?_ ?_
      · refine stepI_mut 2 rfl (fun p => rfl) (fun _ => b) (fun p => (ssc ⟨X.D, A, X.P, X.g⟩)) ?_ ?_
        · rintro p L w1 ⟨hsz, hB, v, r, sv, g, h_tw⟩ hk
          have L2 : L 2 = false := hk.1
          have L4 : L 4 = false := hk.2.2 4 rfl
          rw [L2] at g
          try simp only [cond_true, cond_false] at g
          go_simp
          rw [HN.out]
          simp only [DetR]
          refine (CW.out _ hB g).mono ?_
          rintro e w2 ⟨rfl, h2⟩
          exact ⟨rfl, h2⟩
        · rintro p L w1 w2 ⟨hsz, hB, v, r, sv, g, h_tw⟩ hk hm
          have L2 : L 2 = false := hk.1
          have L4 : L 4 = false := hk.2.2 4 rfl
          refine ⟨Nat.le_trans hsz (by have := hm.size; simpa using this), (hB.row (by first | exact .inr (Nat.le_trans hW0 hp.1) | exact .inr ge_g | exact .inl ⟨Nat.le_refl _, Nat.le_refl _⟩ | omega | (have := hB.size; simp at this ⊢; omega)) _).trans (hm.mono (Nat.le_trans hW0 hsz)), (v.rowOther ne_v_g _).below hm (by simpa using v.lt), (r.rowOther ne_r_g _).below hm (by simpa using r.lt), (sv.rowOther ne_sv_g _).below hm (by simpa using sv.lt), ?_, fun hl => ⟨(h_tw hl).1, ((h_tw hl).2.rowOther (Nat.ne_of_gt (Nat.lt_of_lt_of_le lt_g (h_tw hl).1)) _).below hm (by simpa using (h_tw hl).2.lt)⟩⟩
          rw [show upL L 2 2 = true from rfl]
          exact (g.row _).below hm (by simpa using g.lt)
      refine AllI.cons ?_ ?_
      · refine stepI_alloc 3 rfl (fun p => rfl) rfl (vfn fun _ => 0) 31 (fun p => rfl) ?_ ?_
        · intro p w1
          go_simp
          first | rfl | rw [zero_vec]
        rintro p L w1 ⟨hsz, hB, v, r, sv, g, h_tw⟩ hk
        have L2 : L 2 = true := hk.2.1 2 rfl
        have L4 : L 4 = false := hk.2.2 4 rfl
        refine ⟨Nat.le_trans hsz (by simp), hB.alloc (Nat.le_trans (by first | exact hW0 | (have := hB.size; simp at this ⊢; omega)) hsz) _, v.alloc _, r.alloc _, sv.alloc _, g.alloc _, fun _ => ⟨hsz, ?_⟩⟩
        rw [show upL L 3 4 = false from L4]
        exact blk.new _ _ _
      refine AllI.cons ?_ ?_
      · refine stepI_store 4 rfl (fun p => rfl) (fun p => rfl) _ _ _ rfl (fun p => p 3) 0 (fun p => rfl) (fun p => (vfn To)) (fun p => rfl) (fun p => (vfn fun _ => 0)) (fun p => (vfn To)) 31 (fun p => over_v _ _) (fun p => by first | (rw [vfn_size, vfn_size]; decide) | simp [vfn_size, vfn_size]) (fun p => by rw [vfn_size]; kernel_rfl) (fun p => vfn_one _) ?_ ?_
        · rintro p L w1 ⟨hsz, hB, v, r, sv, g, h_tw⟩ hk
          have L2 : L 2 = true := hk.2.1 2 rfl
          have L4 : L 4 = false := hk.1
          have hh := (h_tw (hk.2.1 3 rfl)).2
          rw [L4] at hh
          try simp only [cond_true, cond_false] at hh
          exact hh
        · rintro p L w1 ⟨hsz, hB, v, r, sv, g, h_tw⟩ hk
          have L2 : L 2 = true := hk.2.1 2 rfl
          have L4 : L 4 = false := hk.1
          skip
          have hp := h_tw (hk.2.1 3 rfl)
          refine ⟨(by simpa using hsz), hB.row (by first | exact .inr (Nat.le_trans hW0 hp.1) | exact .inr ge_tw | exact .inl ⟨Nat.le_refl _, Nat.le_refl _⟩ | omega | (have := hB.size; simp at this ⊢; omega)) _, v.rowOther (by first | exact Nat.ne_of_lt (Nat.lt_of_lt_of_le lt_v hp.1) | omega) _, r.rowOther (by first | exact Nat.ne_of_lt (Nat.lt_of_lt_of_le lt_r hp.1) | omega) _, sv.rowOther (by first | exact Nat.ne_of_lt (Nat.lt_of_lt_of_le lt_sv hp.1) | omega) _, g.rowOther (by first | exact Nat.ne_of_lt (Nat.lt_of_lt_of_le lt_g hp.1) | omega) _, fun _ => ⟨hp.1, ?_⟩⟩
          rw [show upL L 4 4 = true from rfl]
          exact hp.2.row _
      exact AllI.nil
    case hV0 =>
      intro p q
      refine AllI.cons ?_ ?_
      · skip
        iterate 5 (refine AllI.cons (by first | exact .inl rfl | (refine .inr ?_; simp only [gCZ, gCS]; done) | exact .inr rfl) ?_)
        exact AllI.nil
      exact AllI.nil
    case he =>
    clear hB v r sv g
    rintro p w3rr ⟨hsz, hB, v, r, sv, g, h_tw⟩
    obtain ⟨le_tw, tw⟩ := h_tw rfl
    clear h_tw
    replace g : blk w3rr b (ssc ⟨X.D, A, X.P, X.g⟩) 205 := g
    replace tw : blk w3rr (p 3) (vfn To) 31 := tw
    have ne_v_tw : w.heap.size ≠ p 3 := Nat.ne_of_lt (Nat.lt_of_lt_of_le lt_v le_tw)
    have ne_r_tw : (w.heap.size + 1) ≠ p 3 := Nat.ne_of_lt (Nat.lt_of_lt_of_le lt_r le_tw)
    have ne_sv_tw : sb ≠ p 3 := Nat.ne_of_lt (Nat.lt_of_lt_of_le lt_sv le_tw)
    have ne_g_tw : b ≠ p 3 := Nat.ne_of_lt (Nat.lt_of_lt_of_le lt_g le_tw)
    have ge_tw : w.heap.size ≤ p 3 := Nat.le_trans hW0 le_tw
    generalize p 3 = tw_b at *
    clear lt_v lt_r lt_sv lt_g hsz hW0 CW
    go_upto_region 8 with (fail)
    have lt_v := v.lt
    have lt_r := r.lt
    have lt_sv := sv.lt
    have lt_g := g.lt
    have lt_tw := tw.lt
    have hW0 : w.heap.size ≤ w3rr.heap.size := by simpa using hB.size
    apply wp_region_Q 4 [0, 1, 3, 7] [2] [_, _, (fun p => .pointer (some ⟨p 2, 0, none⟩)), (fun _ => undef)] (fun p L w' => w3rr.heap.size ≤ w'.heap.size ∧ Save b b w w' ∧ blk w' w.heap.size (sec V) 85 ∧ blk w' (w.heap.size + 1) (qfn fun _ => 0) 22 ∧ blk w' sb (setc (V.sp, V.f)) 230 ∧ blk w' b (ssc ⟨X.D, A, X.P, X.g⟩) 205 ∧ blk w' tw_b (vfn To) 31 ∧ (L 2 = true → w3rr.heap.size ≤ p 2 ∧ blk w' (p 2) (bif L 3 then (vfn (sumW V.sp)) else (vfn fun _ => 0)) 31)) _ [(0, 59), (1, 60), (2, 12)] [0, 1, 2, 3]
    case hn => rfl
    case hB => kernel_rfl
    case hds => kernel_rfl
    case hA => (intro p; simp only [putsD, Act.put, sIT, sCZ, sCS, gCZ, gCS]; exact rfl)
    case h0 => exact fun p => ⟨Nat.le_refl _, hB, v, r, sv, g, tw, fun h => absurd h (by decide)⟩
    case hmore => exact fun p L w1 w2 ⟨hsz, hB, v, r, sv, g, tw, h_rs⟩ hm => ⟨Nat.le_trans hsz hm.size, hB.trans (hm.mono (Nat.le_trans hW0 hsz)), v.below hm v.lt, r.below hm r.lt, sv.below hm sv.lt, g.below hm g.lt, tw.below hm tw.lt, fun hl => ⟨(h_rs hl).1, (h_rs hl).2.below hm (h_rs hl).2.lt⟩⟩
    case hs =>
      intro more
      refine stepV _ rfl rfl (fun _ _ _ h => h) (by intros; go_simp; exact ⟨rfl, rfl⟩) ?_
      refine stepD 1 rfl (fun p => rfl) (fun _ _ _ h => h) more ?_ ?_
      · rintro p L w1 ⟨hsz, hB, v, r, sv, g, tw, h_rs⟩ hk
        have L3 : L 3 = false := hk.2.2 3 rfl
        go_simp
        refine (SU.out _ _ sv).mono ?_
        rintro e w2 ⟨rfl, h2⟩
        first | exact ⟨rfl, h2⟩ | (subst h2; exact ⟨rfl, Below.refl _ _⟩)
      refine AllI.cons ?_ ?_
      · refine stepI_alloc 2 rfl (fun p => rfl) rfl (vfn fun _ => 0) 31 (fun p => rfl) ?_ ?_
        · intro p w1
          go_simp
          first | rfl | rw [zero_vec]
        rintro p L w1 ⟨hsz, hB, v, r, sv, g, tw, h_rs⟩ hk
        have L3 : L 3 = false := hk.2.2 3 rfl
        refine ⟨Nat.le_trans hsz (by simp), hB.alloc (Nat.le_trans (by first | exact hW0 | (have := hB.size; simp at this ⊢; omega)) hsz) _, v.alloc _, r.alloc _, sv.alloc _, g.alloc _, tw.alloc _, fun _ => ⟨hsz, ?_⟩⟩
        rw [show upL L 2 3 = false from L3]
        exact blk.new _ _ _
      refine AllI.cons ?_ ?_
      · refine stepI_store 3 rfl (fun p => rfl) (fun p => rfl) _ _ _ rfl (fun p => p 2) 0 (fun p => rfl) (fun p => (vfn (sumW V.sp))) (fun p => rfl) (fun p => (vfn fun _ => 0)) (fun p => (vfn (sumW V.sp))) 31 (fun p => over_v _ _) (fun p => by first | (rw [vfn_size, vfn_size]; decide) | simp [vfn_size, vfn_size]) (fun p => by rw [vfn_size]; kernel_rfl) (fun p => vfn_one _) ?_ ?_
        · rintro p L w1 ⟨hsz, hB, v, r, sv, g, tw, h_rs⟩ hk
          have L3 : L 3 = false := hk.1
          have hh := (h_rs (hk.2.1 2 rfl)).2
          rw [L3] at hh
          try simp only [cond_true, cond_false] at hh
          exact hh
        · rintro p L w1 ⟨hsz, hB, v, r, sv, g, tw, h_rs⟩ hk
          have L3 : L 3 = false := hk.1
          skip
          have hp := h_rs (hk.2.1 2 rfl)
          refine ⟨(by simpa using hsz), hB.row (by first | exact .inr (Nat.le_trans hW0 hp.1) | exact .inr ge_rs | exact .inl ⟨Nat.le_refl _, Nat.le_refl _⟩ | omega | (have := hB.size; simp at this ⊢; omega)) _, v.rowOther (by first | exact Nat.ne_of_lt (Nat.lt_of_lt_of_le lt_v hp.1) | omega) _, r.rowOther (by first | exact Nat.ne_of_lt (Nat.lt_of_lt_of_le lt_r hp.1) | omega) _, sv.rowOther (by first | exact Nat.ne_of_lt (Nat.lt_of_lt_of_le lt_sv hp.1) | omega) _, g.rowOther (by first | exact Nat.ne_of_lt (Nat.lt_of_lt_of_le lt_g hp.1) | omega) _, tw.rowOther (by first | exact Nat.ne_of_lt (Nat.lt_of_lt_of_le lt_tw hp.1) | omega) _, fun _ => ⟨hp.1, ?_⟩⟩
          rw [show upL L 3 3 = true from rfl]
          exact hp.2.row _
      exact AllI.nil
    case hV0 =>
      intro p q
      refine AllI.cons ?_ ?_
      · skip
        iterate 4 (refine AllI.cons (by first | exact .inl rfl | (refine .inr ?_; simp only [gCZ, gCS]; done) | exact .inr rfl) ?_)
        exact AllI.nil
      exact AllI.nil
    case he =>
    clear hB v r sv g tw
    rintro p w3rrr ⟨hsz, hB, v, r, sv, g, tw, h_rs⟩
    obtain ⟨le_rs, rs⟩ := h_rs rfl
    clear h_rs
    replace rs : blk w3rrr (p 2) (vfn (sumW V.sp)) 31 := rs
    have ne_v_rs : w.heap.size ≠ p 2 := Nat.ne_of_lt (Nat.lt_of_lt_of_le lt_v le_rs)
    have ne_r_rs : (w.heap.size + 1) ≠ p 2 := Nat.ne_of_lt (Nat.lt_of_lt_of_le lt_r le_rs)
    have ne_sv_rs : sb ≠ p 2 := Nat.ne_of_lt (Nat.lt_of_lt_of_le lt_sv le_rs)
    have ne_g_rs : b ≠ p 2 := Nat.ne_of_lt (Nat.lt_of_lt_of_le lt_g le_rs)
    have ne_tw_rs : tw_b ≠ p 2 := Nat.ne_of_lt (Nat.lt_of_lt_of_le lt_tw le_rs)
    have ge_rs : w.heap.size ≤ p 2 := Nat.le_trans hW0 le_rs
    generalize p 2 = rs_b at *
    clear lt_v lt_r lt_sv lt_g lt_tw hsz hW0 SU
    go_upto_region 9 with (fail)
    have lt_v := v.lt
    have lt_r := r.lt
    have lt_sv := sv.lt
    have lt_g := g.lt
    have lt_tw := tw.lt
    have lt_rs := rs.lt
    have hW0 : w.heap.size ≤ w3rrr.heap.size := by simpa using hB.size
    apply wp_region_Q 6 [0, 1, 3, 7, 15, 31] [] [_, _, _, _, _, _] (fun p L w' => w3rrr.heap.size ≤ w'.heap.size ∧ Save b b w w' ∧ blk w' w.heap.size (sec V) 85 ∧ blk w' (w.heap.size + 1) (qfn fun _ => 0) 22 ∧ blk w' sb (setc (V.sp, V.f)) 230 ∧ blk w' b (ssc ⟨X.D, A, X.P, X.g⟩) 205 ∧ blk w' tw_b (vfn To) 31 ∧ blk w' rs_b (vfn (sumW V.sp)) 31) _ [(0, 61), (1, 62), (2, 63), (3, 64), (4, 65), (5, 66)] [0, 1, 2, 3, 4, 5]
    case hn => rfl
    case hB => kernel_rfl
    case hds => kernel_rfl
    case hA => (intro p; simp only [putsD, Act.put, sIT, sCZ, sCS, gCZ, gCS]; exact rfl)
    case h0 => exact fun p => ⟨Nat.le_refl _, hB, v, r, sv, g, tw, rs⟩
    case hmore => exact fun p L w1 w2 ⟨hsz, hB, v, r, sv, g, tw, rs⟩ hm => ⟨Nat.le_trans hsz hm.size, hB.trans (hm.mono (Nat.le_trans hW0 hsz)), v.below hm v.lt, r.below hm r.lt, sv.below hm sv.lt, g.below hm g.lt, tw.below hm tw.lt, rs.below hm rs.lt⟩
    case hs =>
      intro more
      iterate 4 (refine stepV _ rfl rfl (fun _ _ _ h => h) (by intros; go_simp; exact ⟨rfl, rfl⟩) ?_)
      refine stepV 4 rfl rfl (fun _ _ _ h => h) ?_ ?_
      · rintro p L w1 ⟨hsz, hB, v, r, sv, g, tw, rs⟩ hk
        exact valR_part _ _ rfl _ 0 rfl _ _ g (vfn X.D) (st_d ⟨X.D, A, X.P, X.g⟩) _ Try.underlying31 rfl (by rw [vfn_size]; kernel_rfl) rfl
      refine stepV _ rfl rfl (fun _ _ _ h => h) (by intros; go_simp; exact ⟨rfl, rfl⟩) ?_
      exact AllI.nil
    case hV0 => exact fun p q => AllI.nil
    case he =>
    clear hB v r sv g tw rs
    rintro p w3rrrr ⟨hsz, hB, v, r, sv, g, tw, rs⟩
    clear lt_v lt_r lt_sv lt_g lt_tw lt_rs hsz hW0
    rw [show vfn (sumW V.sp) = vfn (preH (rstF V D2) (sumW V.sp) 0) from by rw [preH_zero]] at rs
    rw [show ssc ⟨X.D, A, X.P, X.g⟩ = ssc ⟨preH D2 X.D 0, A, X.P, X.g⟩ from by rw [preH_zero]] at g
    go_wp2_with (fail)
    go_loopg [66] 3 (fun g_ iv wr => ∃ k : Nat, g_ + k = 3 ∧ iv = .int .i64 k ∧ blk wr w.heap.size (sec V) 85 ∧ blk wr (w.heap.size + 1) (qfn fun _ => 0) 22 ∧ blk wr sb (setc (V.sp, V.f)) 230 ∧ blk wr b (ssc ⟨preH D2 X.D k, A, X.P, X.g⟩) 205 ∧ blk wr tw_b (vfn To) 31 ∧ blk wr rs_b (vfn (preH (rstF V D2) (sumW V.sp) k)) 31 ∧ Save b b w wr)
    case atStart => exact ⟨0, rfl, rfl, v, r, sv, g, tw, rs, hB⟩
    case round =>
      clear v r sv g tw rs hB
      obtain ⟨k, hk, rfl, v, r, sv, g, tw, rs, hB⟩ := hrel
      by_cases hkn : k < 3
      · have hdk : decide ((k : Int) < 3) = true := decide_eq_true (by omega)
        have hdk' : decide (k < 3) = true := decide_eq_true (by omega)
        have hk3 : (k : Int) < 3 := by omega
        have hw3 : IntKind.i64.wrap ((k : Int) + 1) = ((k + 1 : Nat) : Int) := by rw [IntKind.wrap_i64]; omega
        have hix : Hid (∀ w, (Instr.index 31 (.agg (vfn X.D)) (.int .i64 k)).run Try.prog w = .ok (.int .i64 (X.D k)) w) := fun w => vidx3 X.D hkn w
        have B1 := HD.out k hkn
        have B2 := HT.out k hkn
        have B3 := HR.out k hkn
        have B4 := HS.out k hkn
        have B5 := clampR_bd (To k - X.D k)
        have B6 : -4456448 ≤ D2 k ∧ D2 k ≤ 4456448 := by
          first
          | (have ed := HT2.out k; rw [ed]; omega)
          | (have ed := congrFun HT2.out k; rw [ed]; omega)
        have s1 : V.rate k >>> 2 = V.rate k / 4 := Int.shiftRight_eq_div_pow _ _
        have s2 : IntKind.i64.wrap (V.rate k / 4) = V.rate k / 4 := by rw [IntKind.wrap_i64]; omega
        have s3 : IntKind.i64.wrap (V.rate k / 4 - D2 k) = V.rate k / 4 - D2 k := by rw [IntKind.wrap_i64]; omega
        have s4 : IntKind.i64.wrap (sumW V.sp k + (V.rate k / 4 - D2 k)) = sumW V.sp k + (V.rate k / 4 - D2 k) := by rw [IntKind.wrap_i64]; omega
        have ev : sumW V.sp k + (V.rate k / 4 - D2 k) = rstF V D2 k := rfl
        first
          | (have ed := HT2.out k
             rw [ed] at s3 s4 ev
             have a1 : IntKind.i64.wrap (To k - X.D k) = To k - X.D k := by rw [IntKind.wrap_i64]; omega
             have a2 : IntKind.i64.wrap (X.D k + clampV (To k - X.D k) (-262144) 262144) = X.D k + clampV (To k - X.D k) (-262144) 262144 := by rw [IntKind.wrap_i64]; omega
             have CL := Lib.hid (fun w => clamp_any (To k - X.D k) (-262144) 262144 w)
             clear B1 B2 B3 B4 B5 B6
             replace ed := Lib.hid ed.symm
             replace ev := Lib.hid ev
             have hct : wr.cell? ⟨tw_b, k, none⟩ = some (.int .i64 (To k)) := tw.cellIs (vfn_get _ hkn)
             go_upto_region 14 with (first
               | (go_at_call 157; with_reducible refine (CL.out _).mono ?_; rintro e wr ⟨rfl, rfl⟩)
               | (refine wpList_index ?hw _ _ _ rfl _ rfl k _ rfl rfl _ hix.out ?_; (case hw => (first | rfl | (simp [Region.wanted, yielded]; done)))))
             clear hct CL hix
             have lt_v := v.lt
             have lt_r := r.lt
             have lt_sv := sv.lt
             have lt_g := g.lt
             have lt_tw := tw.lt
             have lt_rs := rs.lt
             have hW0 : w.heap.size ≤ wr.heap.size := by simpa using hB.size
             apply wp_region_Q 8 [0, 1, 3, 7, 15, 31, 63, 127] [] [_, _, _, _, _, _, _, (fun _ => undef)] (fun p L w' => wr.heap.size ≤ w'.heap.size ∧ Save b b w w' ∧ blk w' w.heap.size (sec V) 85 ∧ blk w' (w.heap.size + 1) (qfn fun _ => 0) 22 ∧ blk w' sb (setc (V.sp, V.f)) 230 ∧ blk w' b (bif L 7 then (ssc ⟨preH D2 X.D (k + 1), A, X.P, X.g⟩) else (ssc ⟨preH D2 X.D k, A, X.P, X.g⟩)) 205 ∧ blk w' tw_b (vfn To) 31 ∧ blk w' rs_b (vfn (preH (rstF V D2) (sumW V.sp) k)) 31) _ [(0, 79), (1, 80), (2, 81), (3, 82), (4, 83), (5, 84), (6, 85)] [0, 1, 2, 3, 4, 5, 6, 7]
             case hn => rfl
             case hB => kernel_rfl
             case hds => kernel_rfl
             case hA => (intro p; simp only [putsD, Act.put, sIT, sCZ, sCS, gCZ, gCS]; exact rfl)
             case h0 => exact fun p => ⟨Nat.le_refl _, hB, v, r, sv, g, tw, rs⟩
             case hmore => exact fun p L w1 w2 ⟨hsz, hB, v, r, sv, g, tw, rs⟩ hm => ⟨Nat.le_trans hsz hm.size, hB.trans (hm.mono (Nat.le_trans hW0 hsz)), v.below hm v.lt, r.below hm r.lt, sv.below hm sv.lt, g.below hm g.lt, tw.below hm tw.lt, rs.below hm rs.lt⟩
             case hs =>
               intro more
               iterate 7 (refine stepV _ rfl rfl (fun _ _ _ h => h) (by intros; go_simp; exact ⟨rfl, rfl⟩) ?_)
               refine AllI.cons ?_ ?_
               · refine stepI_cell 7 rfl (fun p => rfl) (fun p => rfl) (fun _ => b) (k) (fun p => .int .i64 (X.D k + clampV (To k - X.D k) (-262144) 262144)) (fun p => (ssc ⟨preH D2 X.D k, A, X.P, X.g⟩)) (fun p => (ssc ⟨preH D2 X.D (k + 1), A, X.P, X.g⟩)) 205 (fun p => st_pre _ _ _ hkn _ ed.out) ?_ ?_ ?_
                 · rintro p L w1 ⟨hsz, hB, v, r, sv, g, tw, rs⟩ hk
                   have L7 : L 7 = false := hk.1
                   rw [L7] at g
                   try simp only [cond_true, cond_false] at g
                   exact g
                 · intro p w1 hb
                   have fz : w1.frozen? ⟨b, k, none⟩ = false := hb.free _
                   have cz : ∃ u, w1.cell? ⟨b, k, none⟩ = some u := ⟨_, hb.cellIs (st_di _ hkn)⟩
                   obtain ⟨u, cz⟩ := cz
                   go_simp
                   try exact ⟨_, rfl, by first | exact .inl rfl | exact .inr rfl⟩
                 · rintro p L w1 ⟨hsz, hB, v, r, sv, g, tw, rs⟩ hk
                   have L7 : L 7 = false := hk.1
                   refine ⟨(by simpa using hsz), hB.row (by first | exact .inr (Nat.le_trans hW0 hp.1) | exact .inr ge_g | exact .inl ⟨Nat.le_refl _, Nat.le_refl _⟩ | omega | (have := hB.size; simp at this ⊢; omega)) _, v.rowOther ne_v_g _, r.rowOther ne_r_g _, sv.rowOther ne_sv_g _, ?_, tw.rowOther (Ne.symm ne_g_tw) _, rs.rowOther (Ne.symm ne_g_rs) _⟩
                   rw [show upL L 7 7 = true from rfl]
                   exact g.row _
               exact AllI.nil
             case hV0 => exact fun p q => AllI.nil
             case' he =>
             clear hB v r sv g tw rs
             rintro p wr ⟨hsz, hB, v, r, sv, g, tw, rs⟩
             replace g : blk wr b (ssc ⟨preH D2 X.D (k + 1), A, X.P, X.g⟩) 205 := g
             clear lt_v lt_r lt_sv lt_g lt_tw lt_rs hsz hW0
             go_upto_region 15 with (fail))
          | (have ed := HT2.out
             rw [congrFun ed k] at s3 s4 ev
             clear B1 B2 B3 B4 B5 B6
             replace ev := Lib.hid ev
             replace ed := Lib.hid ed
             go_upto_region 15 with (refine wpList_index ?hw _ _ _ rfl _ rfl k _ rfl rfl _ hix.out ?_; (case hw => (first | rfl | (simp [Region.wanted, yielded]; done))))
             clear hix
             rw [preH_eq ed.out, ← preH_eq ed.out (k + 1)] at g)
        have lt_v := v.lt
        have lt_r := r.lt
        have lt_sv := sv.lt
        have lt_g := g.lt
        have lt_tw := tw.lt
        have lt_rs := rs.lt
        have hW0 : w.heap.size ≤ wr.heap.size := by simpa using hB.size
        apply wp_region_I 13 [0, 1, 3, 0, 0, 24, 56, 120, 0, 504, 1023, 2047, 4095] [] [_, _, _, _, _, _, _, _, _, _, _, _, (fun _ => undef)] (fun p L w' => wr.heap.size ≤ w'.heap.size ∧ Save b b w w' ∧ blk w' w.heap.size (sec V) 85 ∧ blk w' (w.heap.size + 1) (qfn fun _ => 0) 22 ∧ blk w' sb (setc (V.sp, V.f)) 230 ∧ blk w' b (ssc ⟨preH D2 X.D (k + 1), A, X.P, X.g⟩) 205 ∧ blk w' tw_b (vfn To) 31 ∧ blk w' rs_b (bif L 12 then (vfn (preH (rstF V D2) (sumW V.sp) (k + 1))) else (vfn (preH (rstF V D2) (sumW V.sp) k))) 31) _ [(0, 86), (1, 87), (2, 88), (3, 89), (4, 90), (5, 91), (6, 92), (7, 93), (8, 94), (9, 95), (10, 96), (11, 97)] [0, 1, 2, 3, 4, 5, 6, 7, 8, 9, 10, 11, 12]
        case hn => rfl
        case hm => kernel_rfl
        case hB => kernel_rfl
        case hds => kernel_rfl
        case hA => (intro p; simp only [putsD, Act.put, sIT, sCZ, sCS, gCZ, gCS]; exact rfl)
        case h0 => exact fun p => ⟨Nat.le_refl _, hB.drew, v.drew, r.drew, sv.drew, g.drew, tw.drew, rs.drew⟩
        case hmore => exact fun p L w1 w2 ⟨hsz, hB, v, r, sv, g, tw, rs⟩ hm => ⟨Nat.le_trans hsz hm.size, hB.trans (hm.mono (Nat.le_trans hW0 hsz)), v.below hm v.lt, r.below hm r.lt, sv.below hm sv.lt, g.below hm g.lt, tw.below hm tw.lt, rs.below hm rs.lt⟩
        case hs =>
          intro more
          iterate 2 (refine stepV _ rfl rfl (fun _ _ _ h => h) (by intros; go_simp; exact ⟨rfl, rfl⟩) ?_)
          refine stepV 2 rfl rfl (fun _ _ _ h => h) ?_ ?_
          · rintro p L w1 ⟨hsz, hB, v, r, sv, g, tw, rs⟩ hk
            have L12 : L 12 = false := hk.2.2 12 rfl
            rw [L12] at rs
            try simp only [cond_true, cond_false] at rs
            have hc : w1.cell? ⟨rs_b, k, none⟩ = some (.int .i64 (sumW V.sp k)) := by have := rs.cellIs (vfn_get _ hkn); rw [preH_ge (Nat.le_refl k)] at this; exact this
            go_simp
            exact ⟨rfl, rfl⟩
          iterate 3 (refine stepV _ rfl rfl (fun _ _ _ h => h) (by intros; go_simp; exact ⟨rfl, rfl⟩) ?_)
          refine stepV 6 rfl rfl (fun _ _ _ h => h) ?_ ?_
          · rintro p L w1 ⟨hsz, hB, v, r, sv, g, tw, rs⟩ hk
            have L12 : L 12 = false := hk.2.2 12 rfl
            have hc : w1.cell? ⟨w.heap.size, k, none⟩ = some (.int .i64 (V.rate k)) := v.cellIs (se_ri V hkn)
            go_simp
            exact ⟨rfl, rfl⟩
          iterate 5 (refine stepV _ rfl rfl (fun _ _ _ h => h) (by intros; go_simp; exact ⟨rfl, rfl⟩) ?_)
          refine AllI.cons ?_ ?_
          · refine stepI_cell 12 rfl (fun p => rfl) (fun p => rfl) (fun _ => rs_b) (k) (fun p => .int .i64 _) (fun p => (vfn (preH (rstF V D2) (sumW V.sp) k))) (fun p => (vfn (preH (rstF V D2) (sumW V.sp) (k + 1)))) 31 (fun p => v_pre hkn _ ev.out) ?_ ?_ ?_
            · rintro p L w1 ⟨hsz, hB, v, r, sv, g, tw, rs⟩ hk
              have L12 : L 12 = false := hk.1
              rw [L12] at rs
              try simp only [cond_true, cond_false] at rs
              exact rs
            · intro p w1 hb
              have fz : w1.frozen? ⟨rs_b, k, none⟩ = false := hb.free _
              have cz : ∃ u, w1.cell? ⟨rs_b, k, none⟩ = some u := ⟨_, hb.cellIs (vfn_get _ hkn)⟩
              obtain ⟨u, cz⟩ := cz
              go_simp
              try exact ⟨_, rfl, by first | exact .inl rfl | exact .inr rfl⟩
            · rintro p L w1 ⟨hsz, hB, v, r, sv, g, tw, rs⟩ hk
              have L12 : L 12 = false := hk.1
              refine ⟨(by simpa using hsz), hB.row (by first | exact .inr (Nat.le_trans hW0 hp.1) | exact .inr ge_rs | exact .inl ⟨Nat.le_refl _, Nat.le_refl _⟩ | omega | (have := hB.size; simp at this ⊢; omega)) _, v.rowOther ne_v_rs _, r.rowOther ne_r_rs _, sv.rowOther ne_sv_rs _, g.rowOther ne_g_rs _, tw.rowOther ne_tw_rs _, ?_⟩
              rw [show upL L 12 12 = true from rfl]
              exact rs.row _
          exact AllI.nil
        case hV0 => exact fun p q => AllI.nil
        case he =>
        clear hB v r sv g tw rs
        rintro p wrrr ⟨hsz, hB, v, r, sv, g, tw, rs⟩
        replace rs : blk wrrr rs_b (vfn (preH (rstF V D2) (sumW V.sp) (k + 1))) 31 := rs
        clear lt_v lt_r lt_sv lt_g lt_tw lt_rs hsz hW0
        go_wp2_with (fail)
        go_roundg (3 - (k + 1))
        case rel =>
          exact ⟨k + 1, by omega, rfl, v, r, sv, g, tw, rs, hB⟩
        case measure => omega
      · obtain rfl : k = 3 := by omega
        rw [v_pre3] at rs
        rw [st_pre3] at g
        go_upto_region 17 with (fail)
        have lt_v := v.lt
        have lt_r := r.lt
        have lt_sv := sv.lt
        have lt_g := g.lt
        have lt_tw := tw.lt
        have lt_rs := rs.lt
        have hW0 : w.heap.size ≤ wr.heap.size := by simpa using hB.size
        apply wp_region_Q 12 [0, 1, 3, 7, 15, 31, 63, 127, 255, 511, 1023, 2047] [] [_, _, _, _, _, _, _, _, _, _, _, (fun _ => undef)] (fun p L w' => wr.heap.size ≤ w'.heap.size ∧ Save b b w w' ∧ blk w' w.heap.size (sec V) 85 ∧ blk w' (w.heap.size + 1) (qfn fun _ => 0) 22 ∧ blk w' sb (setc (V.sp, V.f)) 230 ∧ blk w' b (bif L 11 then (ssc ⟨D2, A, (stP V D2), X.g⟩) else (ssc ⟨D2, A, X.P, X.g⟩)) 205 ∧ blk w' tw_b (vfn To) 31 ∧ blk w' rs_b (vfn (rstF V D2)) 31) _ [(0, 100), (1, 101), (2, 102), (3, 103), (4, 104), (5, 99), (6, 105), (7, 106), (8, 107), (9, 108), (10, 109)] [0, 1, 2, 3, 4, 5, 6, 7, 8, 9, 10, 11]
        case hn => rfl
        case hB => kernel_rfl
        case hds => kernel_rfl
        case hA => (intro p; simp only [putsD, Act.put, sIT, sCZ, sCS, gCZ, gCS]; exact rfl)
        case h0 => exact fun p => ⟨Nat.le_refl _, hB, v, r, sv, g, tw, rs⟩
        case hmore => exact fun p L w1 w2 ⟨hsz, hB, v, r, sv, g, tw, rs⟩ hm => ⟨Nat.le_trans hsz hm.size, hB.trans (hm.mono (Nat.le_trans hW0 hsz)), v.below hm v.lt, r.below hm r.lt, sv.below hm sv.lt, g.below hm g.lt, tw.below hm tw.lt, rs.below hm rs.lt⟩
        case hs =>
          intro more
          refine stepV _ rfl rfl (fun _ _ _ h => h) (by intros; go_simp; exact ⟨rfl, rfl⟩) ?_
          refine stepV 1 rfl rfl (fun _ _ _ h => h) ?_ ?_
          · rintro p L w1 ⟨hsz, hB, v, r, sv, g, tw, rs⟩ hk
            have L11 : L 11 = false := hk.2.2 11 rfl
            first | exact valR_row _ _ rfl _ rfl _ _ rs _ Try.underlying31 rfl (by first | kernel_rfl | (rw [vfn_size]; kernel_rfl)) rfl | (have hc := rs.cellIs (vfn_get _ (show 0 < 3 by omega)); go_simp; exact ⟨rfl, rfl⟩)
          refine stepV _ rfl rfl (fun _ _ _ h => h) (by intros; go_simp; exact ⟨rfl, rfl⟩) ?_
          refine stepV 3 rfl rfl (fun _ _ _ h => h) ?_ ?_
          · rintro p L w1 ⟨hsz, hB, v, r, sv, g, tw, rs⟩ hk
            have L11 : L 11 = false := hk.2.2 11 rfl
            have hc : w1.cell? ⟨w.heap.size, 7, none⟩ = some (.int .i64 V.f) := v.cellIs rfl
            go_simp
            exact ⟨rfl, rfl⟩
          refine stepD 4 rfl (fun p => rfl) (fun _ _ _ h => h) more ?_ ?_
          · rintro p L w1 ⟨hsz, hB, v, r, sv, g, tw, rs⟩ hk
            go_simp
            refine (AL.out _).mono ?_
            rintro e w2 ⟨rfl, h2⟩
            first | exact ⟨rfl, h2⟩ | (subst h2; exact ⟨rfl, Below.refl _ _⟩)
          iterate 6 (refine stepV _ rfl rfl (fun _ _ _ h => h) (by intros; go_simp; exact ⟨rfl, rfl⟩) ?_)
          refine AllI.cons ?_ ?_
          · refine stepI_store 11 rfl (fun p => rfl) (fun p => rfl) _ _ _ rfl (fun _ => b) 6 (fun p => rfl) (fun p => (qfn (stP V D2))) (fun p => rfl) (fun p => (ssc ⟨D2, A, X.P, X.g⟩)) (fun p => (ssc ⟨D2, A, (stP V D2), X.g⟩)) 205 (fun p => over_sp _ _ _ _ _) (fun p => by first | (rw [qfn_size, ssc_size]; decide) | simp [qfn_size, ssc_size]) (fun p => by rw [qfn_size]; kernel_rfl) (fun p => qfn_one _) ?_ ?_
            · rintro p L w1 ⟨hsz, hB, v, r, sv, g, tw, rs⟩ hk
              have L11 : L 11 = false := hk.1
              rw [L11] at g
              try simp only [cond_true, cond_false] at g
              exact g
            · rintro p L w1 ⟨hsz, hB, v, r, sv, g, tw, rs⟩ hk
              have L11 : L 11 = false := hk.1
              skip
              refine ⟨(by simpa using hsz), hB.row (by first | exact .inr (Nat.le_trans hW0 hp.1) | exact .inr ge_g | exact .inl ⟨Nat.le_refl _, Nat.le_refl _⟩ | omega | (have := hB.size; simp at this ⊢; omega)) _, v.rowOther ne_v_g _, r.rowOther ne_r_g _, sv.rowOther ne_sv_g _, ?_, tw.rowOther (Ne.symm ne_g_tw) _, rs.rowOther (Ne.symm ne_g_rs) _⟩
              rw [show upL L 11 11 = true from rfl]
              exact g.row _
          exact AllI.nil
        case hV0 => exact fun p q => AllI.nil
        case he =>
        clear hB v r sv g tw rs
        rintro p wrr ⟨hsz, hB, v, r, sv, g, tw, rs⟩
        replace g : blk wrr b (ssc ⟨D2, A, (stP V D2), X.g⟩) 205 := g
        clear lt_v lt_r lt_sv lt_g lt_tw lt_rs hsz hW0
        go_upto_region 18 with (fail)
        have lt_v := v.lt
        have lt_r := r.lt
        have lt_sv := sv.lt
        have lt_g := g.lt
        have lt_tw := tw.lt
        have lt_rs := rs.lt
        have hW0 : w.heap.size ≤ wrr.heap.size := by simpa using hB.size
        apply wp_region_Q 5 [0, 1, 3, 7, 15] [] [_, _, _, _, (fun _ => undef)] (fun p L w' => wrr.heap.size ≤ w'.heap.size ∧ Save b b w w' ∧ blk w' w.heap.size (sec V) 85 ∧ blk w' (w.heap.size + 1) (qfn fun _ => 0) 22 ∧ blk w' sb (setc (V.sp, V.f)) 230 ∧ blk w' b (bif L 4 then (ssc ⟨D2, A, (stP V D2), true⟩) else (ssc ⟨D2, A, (stP V D2), X.g⟩)) 205 ∧ blk w' tw_b (vfn To) 31 ∧ blk w' rs_b (vfn (rstF V D2)) 31) _ [(0, 110), (1, 111), (2, 112), (3, 113)] [0, 1, 2, 3, 4]
        case hn => rfl
        case hB => kernel_rfl
        case hds => kernel_rfl
        case hA => (intro p; simp only [putsD, Act.put, sIT, sCZ, sCS, gCZ, gCS]; exact rfl)
        case h0 => exact fun p => ⟨Nat.le_refl _, hB, v, r, sv, g, tw, rs⟩
        case hmore => exact fun p L w1 w2 ⟨hsz, hB, v, r, sv, g, tw, rs⟩ hm => ⟨Nat.le_trans hsz hm.size, hB.trans (hm.mono (Nat.le_trans hW0 hsz)), v.below hm v.lt, r.below hm r.lt, sv.below hm sv.lt, g.below hm g.lt, tw.below hm tw.lt, rs.below hm rs.lt⟩
        case hs =>
          intro more
          iterate 4 (refine stepV _ rfl rfl (fun _ _ _ h => h) (by intros; go_simp; exact ⟨rfl, rfl⟩) ?_)
          refine AllI.cons ?_ ?_
          · refine stepI_cell 4 rfl (fun p => rfl) (fun p => rfl) (fun _ => b) (10) (fun p => .bool true) (fun p => (ssc ⟨D2, A, (stP V D2), X.g⟩)) (fun p => (ssc ⟨D2, A, (stP V D2), true⟩)) 205 (fun p => set_g _ _ _ _) ?_ ?_ ?_
            · rintro p L w1 ⟨hsz, hB, v, r, sv, g, tw, rs⟩ hk
              have L4 : L 4 = false := hk.1
              rw [L4] at g
              try simp only [cond_true, cond_false] at g
              exact g
            · intro p w1 hb
              have fz : w1.frozen? ⟨b, 10, none⟩ = false := hb.free _
              have cz : ∃ u, w1.cell? ⟨b, 10, none⟩ = some u := ⟨_, hb.cellIs (rfl)⟩
              obtain ⟨u, cz⟩ := cz
              go_simp
              try exact ⟨_, rfl, by first | exact .inl rfl | exact .inr rfl⟩
            · rintro p L w1 ⟨hsz, hB, v, r, sv, g, tw, rs⟩ hk
              have L4 : L 4 = false := hk.1
              refine ⟨(by simpa using hsz), hB.row (by first | exact .inr (Nat.le_trans hW0 hp.1) | exact .inr ge_g | exact .inl ⟨Nat.le_refl _, Nat.le_refl _⟩ | omega | (have := hB.size; simp at this ⊢; omega)) _, v.rowOther ne_v_g _, r.rowOther ne_r_g _, sv.rowOther ne_sv_g _, ?_, tw.rowOther (Ne.symm ne_g_tw) _, rs.rowOther (Ne.symm ne_g_rs) _⟩
              rw [show upL L 4 4 = true from rfl]
              exact g.row _
          exact AllI.nil
        case hV0 => exact fun p q => AllI.nil
        case he =>
        clear hB v r sv g tw rs
        rintro p wrrr ⟨hsz, hB, v, r, sv, g, tw, rs⟩
        replace g : blk wrrr b (ssc ⟨D2, A, (stP V D2), true⟩) 205 := g
        clear lt_v lt_r lt_sv lt_g lt_tw lt_rs hsz hW0
        go_upto_region 19 with (fail)
        have lt_v := v.lt
        have lt_r := r.lt
        have lt_sv := sv.lt
        have lt_g := g.lt
        have lt_tw := tw.lt
        have lt_rs := rs.lt
        have hW0 : w.heap.size ≤ wrrr.heap.size := by simpa using hB.size
        apply wp_region_Q 9 [0, 1, 3, 7, 15, 31, 63, 127, 255] [] [_, _, _, _, _, _, _, (fun _ => undef), _] (fun p L w' => wrrr.heap.size ≤ w'.heap.size ∧ Save b b w w' ∧ blk w' w.heap.size (sec V) 85 ∧ blk w' (w.heap.size + 1) (bif L 7 then (qfn (cmdF V.sp V.f (stP V D2))) else (qfn fun _ => 0)) 22 ∧ blk w' sb (setc (V.sp, V.f)) 230 ∧ blk w' b (ssc ⟨D2, A, (stP V D2), true⟩) 205 ∧ blk w' tw_b (vfn To) 31 ∧ blk w' rs_b (vfn (rstF V D2)) 31) _ [(0, 114), (1, 115), (2, 116), (3, 117), (4, 118), (5, 119), (6, 120), (8, 7)] [0, 1, 2, 3, 4, 5, 6, 7, 8]
        case hn => rfl
        case hB => kernel_rfl
        case hds => kernel_rfl
        case hA => (intro p; simp only [putsD, Act.put, sIT, sCZ, sCS, gCZ, gCS]; exact rfl)
        case h0 => exact fun p => ⟨Nat.le_refl _, hB, v, r, sv, g, tw, rs⟩
        case hmore => exact fun p L w1 w2 ⟨hsz, hB, v, r, sv, g, tw, rs⟩ hm => ⟨Nat.le_trans hsz hm.size, hB.trans (hm.mono (Nat.le_trans hW0 hsz)), v.below hm v.lt, r.below hm r.lt, sv.below hm sv.lt, g.below hm g.lt, tw.below hm tw.lt, rs.below hm rs.lt⟩
        case hs =>
          intro more
          iterate 5 (refine stepV _ rfl rfl (fun _ _ _ h => h) (by intros; go_simp; exact ⟨rfl, rfl⟩) ?_)
          refine stepV 5 rfl rfl (fun _ _ _ h => h) ?_ ?_
          · rintro p L w1 ⟨hsz, hB, v, r, sv, g, tw, rs⟩ hk
            have L7 : L 7 = false := hk.2.2 7 rfl
            exact valR_part _ _ rfl _ 6 rfl _ _ g (qfn (stP V D2)) (st_p ⟨D2, A, (stP V D2), true⟩) _ Try.underlying22 rfl (by rw [qfn_size]; kernel_rfl) rfl
          refine stepD 6 rfl (fun p => rfl) (fun _ _ _ h => h) more ?_ ?_
          · rintro p L w1 ⟨hsz, hB, v, r, sv, g, tw, rs⟩ hk
            have L7 : L 7 = false := hk.2.2 7 rfl
            go_simp
            refine (CM.out _ _ sv).mono ?_
            rintro e w2 ⟨rfl, h2⟩
            first | exact ⟨rfl, h2⟩ | (subst h2; exact ⟨rfl, Below.refl _ _⟩)
          refine AllI.cons ?_ ?_
          · refine stepI_store 7 rfl (fun p => rfl) (fun p => rfl) _ _ _ rfl (fun _ => (w.heap.size + 1)) 0 (fun p => rfl) (fun p => (qfn (cmdF V.sp V.f (stP V D2)))) (fun p => rfl) (fun p => (qfn fun _ => 0)) (fun p => (qfn (cmdF V.sp V.f (stP V D2)))) 22 (fun p => over_qq _ _) (fun p => by first | (rw [qfn_size, qfn_size]; decide) | simp [qfn_size, qfn_size]) (fun p => by rw [qfn_size]; kernel_rfl) (fun p => qfn_one _) ?_ ?_
            · rintro p L w1 ⟨hsz, hB, v, r, sv, g, tw, rs⟩ hk
              have L7 : L 7 = false := hk.1
              rw [L7] at r
              try simp only [cond_true, cond_false] at r
              exact r
            · rintro p L w1 ⟨hsz, hB, v, r, sv, g, tw, rs⟩ hk
              have L7 : L 7 = false := hk.1
              skip
              refine ⟨(by simpa using hsz), hB.row (by first | exact .inr (Nat.le_trans hW0 hp.1) | exact .inr ge_r | exact .inl ⟨Nat.le_refl _, Nat.le_refl _⟩ | omega | (have := hB.size; simp at this ⊢; omega)) _, v.rowOther (by first | exact ne_v_r | exact Ne.symm ne_r_v | omega) _, ?_, sv.rowOther (Ne.symm ne_r_sv) _, g.rowOther (Ne.symm ne_r_g) _, tw.rowOther (Ne.symm ne_r_tw) _, rs.rowOther (Ne.symm ne_r_rs) _⟩
              rw [show upL L 7 7 = true from rfl]
              exact r.row _
          refine stepV _ rfl rfl (fun _ _ _ h => h) (by intros; go_simp; exact ⟨rfl, rfl⟩) ?_
          exact AllI.nil
        case hV0 => exact fun p q => AllI.nil
        case he =>
        clear hB v r sv g tw rs
        rintro p wrrrr ⟨hsz, hB, v, r, sv, g, tw, rs⟩
        replace r : blk wrrrr (w.heap.size + 1) (qfn (cmdF V.sp V.f (stP V D2))) 22 := r
        clear lt_v lt_r lt_sv lt_g lt_tw lt_rs hsz hW0
        go_wp2_with (fail)
        refine bodyPost_ret (results_vec rfl _ _ _ _ _ _ _ rfl r Try.underlying22 rfl (by first | kernel_rfl | (rw [qfn_size]; kernel_rfl))) rfl ?_
        exact ⟨rfl, g, hB⟩
end Go.Proofs.Ytkmelddejdikgaa
namespace Go.Proofs.Ytkmelddejdikgaa
open Go.RowKit PM Dt
theorem hn_of {N : FuncId} {fn : Func} {c : Code} (h1 : Try.prog.funcs[N]? = some fn) (h2 : (fn.name == "runtime.NumGoroutine") = false) (hb : fn.body = some c) : ∀ ar w1, Sem.run Try.prog (callFunc N ar) w1 = .ok (.enter N ar) w1 := by
  intro ar w1
  have h3 : fn.name ≠ "runtime.NumGoroutine" := by simpa using h2
  simp [callFunc, h1, h3, hb]
set_option maxRecDepth 100000 in
set_option maxHeartbeats 4000000 in
theorem trest_ok (X : SSt) (V : SeT) (b : Nat) (w : World) (hg : blk w b (ssc X) 205) (hk : senseOk V = true) (hD : ∀ i, i < 3 → -4194304 ≤ X.D i ∧ X.D i ≤ 4194304) : Calls Try.prog 85 #[.pointer (some ⟨b, 0, none⟩), .agg (sec V)] w fun e w' => e = .returned (.tuple #[.agg (qfn (stC X V (fun _ => 0))), .int .i64 0]) ∧ blk w' b (ssc (stX X V (fun _ => 0) (fun _ => 0))) 205 ∧ Save b b w w' := by
  have ST := Lib.hid (fun w1 q (g : blk w1 b (ssc X) 205) (hq : blk w1 q (ptc b) 91) (hne : q ≠ b) => tstep_g_any X V b 143 #[.pointer (some ⟨q, 0, none⟩)] (fun _ => 0) (fun _ => 0) w1 g hk hD (fun i hi => ⟨by decide, by decide⟩) (fun w2 hS hg2 => rest1_any X b q (arrB X V) w2 hg2 (hq.save hS (by omega))) (hn_of Try.func143 rfl rfl))
  clear hk hD
  go_enter Try.func85, Try.ntmps85
  go_upto_region 1 with (fail)
  simp only [show #[Value.pointer (some ⟨b, 0, none⟩)] = ptc b from rfl, zero_spd]
  have pp : blk (((w.alloc (.cells (ptc b) 91)).alloc (.cells (sec V) 85)).alloc (.cells (qfn fun _ => 0) 22)) w.heap.size (ptc b) 91 := ((blk.new _ _ _).alloc _).alloc _
  have v : blk (((w.alloc (.cells (ptc b) 91)).alloc (.cells (sec V) 85)).alloc (.cells (qfn fun _ => 0) 22)) (w.heap.size + 1) (sec V) 85 := (blk.new' (by simp)).alloc _
  have r : blk (((w.alloc (.cells (ptc b) 91)).alloc (.cells (sec V) 85)).alloc (.cells (qfn fun _ => 0) 22)) (w.heap.size + 2) (qfn fun _ => 0) 22 := blk.new' (by simp)
  have hB : Below w.heap.size w (((w.alloc (.cells (ptc b) 91)).alloc (.cells (sec V) 85)).alloc (.cells (qfn fun _ => 0) 22)) := by go_grown
  generalize (((w.alloc (.cells (ptc b) 91)).alloc (.cells (sec V) 85)).alloc (.cells (qfn fun _ => 0) 22)) = w0 at *
  have g : blk w0 b (ssc X) 205 := hg.below hB hg.lt
  have gl := hg.lt
  have ne_pp_g : w.heap.size ≠ b := by omega
  have ne_v_g : (w.heap.size + 1) ≠ b := by omega
  have ne_r_g : (w.heap.size + 2) ≠ b := by omega
  replace hB : Save b b w w0 := Save.of hB
  have cp : w0.cell? ⟨w.heap.size, 0, none⟩ = some (.pointer (some ⟨b, 0, none⟩))   := pp.cellIs rfl
  go_wp2_with (first | (refine wpList_load_rowG ?hw _ _ rfl _ rfl _ _ _ _ v Try.underlying85 rfl ?hi ?_; (case hw => (first | rfl | (simp [Region.wanted, yielded]; done))); (case hi => (first | kernel_rfl | (rw [sec_size]; kernel_rfl)))) | (go_at_call 142; with_reducible refine (ST.out _ _ g pp ne_pp_g).mono ?_; rintro e wz ⟨rfl, g2, hS⟩; replace pp := pp.save hS (by omega); replace v := v.save hS (by omega); replace r := r.save hS (by omega); replace hB := hB.next hS; replace g := g2; clear hS g2) | (refine wpList_store_row rfl _ _ _ rfl _ rfl _ rfl _ _ r (by first | kernel_rfl | (rw [qfn_size]; kernel_rfl)) (by first | rfl | simp only [qfn_size]) (by first | exact qfn_one _ | rfl) ?_))
  refine bodyPost_ret (results_vec rfl _ _ _ _ _ _ _ rfl (r.row (qfn (stC X V (fun _ => 0)))) Try.underlying22 rfl (by rw [qfn_size]; kernel_rfl)) rfl ?_
  exact ⟨rfl, g.rowOther (Ne.symm ne_r_g) _, hB.row (by first | exact .inr (by omega) | (have := hB.size; omega)) _⟩
end Go.Proofs.Ytkmelddejdikgaa
namespace Go.Proofs.Ytkmelddejdikgaa
open Go.RowKit PM Dt
def sunE (V : SeT) (a : Bool) : Bool := !a || (zV V.sun || decide (939524096 ≤ V.sun 2))
def sunA1 (X : SSt) (V : SeT) (a : Bool) : Nat → Int := if sunE V a then fun _ => 0 else X.A
def sunB (X : SSt) (V : SeT) (a : Bool) : Bool := zV (sunA1 X V a) && (a && (zV X.D && (zV V.rate && (!zV V.sun && decide (V.sun 2 < 805306368)))))
def sunA (X : SSt) (V : SeT) (a : Bool) : Nat → Int := if sunB X V a then acrF V.sun else sunA1 X V a
def sunTo (X : SSt) (V : SeT) (a : Bool) : Nat → Int := vscaleF (sunA X V a) 4194304
theorem zV_zero : zV (fun _ => 0) = true := by decide
theorem sun_cases (X : SSt) (V : SeT) (a : Bool) (A1 A2 : Nat → Int) (h1 : A1 = sunA1 X V a) (h2 : A2 = sunA X V a) :
    (a = false ∧ True ∧ True ∧ A1 = (fun _ => 0) ∧ zV A1 = true ∧ True ∧ True ∧ True ∧ A2 = A1 ∧ Hid (0 = 0) ∧ Hid (0 = 0) ∧ Hid (1 = 1) ∧ Hid (0 = 0) ∧ Hid (0 = 0) ∧ Hid (0 = 0) ∧ Hid (0 = 0)) ∨
    (a = true ∧ zV V.sun = true ∧ True ∧ A1 = (fun _ => 0) ∧ zV A1 = true ∧ zV X.D = false ∧ True ∧ True ∧ A2 = A1 ∧ Hid (1 = 1) ∧ Hid (0 = 0) ∧ Hid (1 = 1) ∧ Hid (1 = 1) ∧ Hid (0 = 0) ∧ Hid (0 = 0) ∧ Hid (0 = 0)) ∨
    (a = true ∧ zV V.sun = true ∧ True ∧ A1 = (fun _ => 0) ∧ zV A1 = true ∧ zV X.D = true ∧ zV V.rate = false ∧ True ∧ A2 = A1 ∧ Hid (1 = 1) ∧ Hid (0 = 0) ∧ Hid (1 = 1) ∧ Hid (1 = 1) ∧ Hid (1 = 1) ∧ Hid (0 = 0) ∧ Hid (0 = 0)) ∨
    (a = true ∧ zV V.sun = true ∧ True ∧ A1 = (fun _ => 0) ∧ zV A1 = true ∧ zV X.D = true ∧ zV V.rate = true ∧ True ∧ A2 = A1 ∧ Hid (1 = 1) ∧ Hid (0 = 0) ∧ Hid (1 = 1) ∧ Hid (1 = 1) ∧ Hid (1 = 1) ∧ Hid (1 = 1) ∧ Hid (0 = 0)) ∨
    (a = true ∧ zV V.sun = false ∧ decide (939524096 ≤ V.sun 2) = true ∧ A1 = (fun _ => 0) ∧ zV A1 = true ∧ zV X.D = false ∧ True ∧ True ∧ A2 = A1 ∧ Hid (1 = 1) ∧ Hid (1 = 1) ∧ Hid (1 = 1) ∧ Hid (1 = 1) ∧ Hid (0 = 0) ∧ Hid (0 = 0) ∧ Hid (0 = 0)) ∨
    (a = true ∧ zV V.sun = false ∧ decide (939524096 ≤ V.sun 2) = true ∧ A1 = (fun _ => 0) ∧ zV A1 = true ∧ zV X.D = true ∧ zV V.rate = false ∧ True ∧ A2 = A1 ∧ Hid (1 = 1) ∧ Hid (1 = 1) ∧ Hid (1 = 1) ∧ Hid (1 = 1) ∧ Hid (1 = 1) ∧ Hid (0 = 0) ∧ Hid (0 = 0)) ∨
    (a = true ∧ zV V.sun = false ∧ decide (939524096 ≤ V.sun 2) = true ∧ A1 = (fun _ => 0) ∧ zV A1 = true ∧ zV X.D = true ∧ zV V.rate = true ∧ decide (V.sun 2 < 805306368) = false ∧ A2 = A1 ∧ Hid (1 = 1) ∧ Hid (1 = 1) ∧ Hid (1 = 1) ∧ Hid (1 = 1) ∧ Hid (1 = 1) ∧ Hid (1 = 1) ∧ Hid (1 = 1)) ∨
    (a = true ∧ zV V.sun = false ∧ decide (939524096 ≤ V.sun 2) = false ∧ A1 = X.A ∧ zV A1 = false ∧ True ∧ True ∧ True ∧ A2 = A1 ∧ Hid (1 = 1) ∧ Hid (1 = 1) ∧ Hid (0 = 0) ∧ Hid (0 = 0) ∧ Hid (0 = 0) ∧ Hid (0 = 0) ∧ Hid (0 = 0)) ∨
    (a = true ∧ zV V.sun = false ∧ decide (939524096 ≤ V.sun 2) = false ∧ A1 = X.A ∧ zV A1 = true ∧ zV X.D = false ∧ True ∧ True ∧ A2 = A1 ∧ Hid (1 = 1) ∧ Hid (1 = 1) ∧ Hid (1 = 1) ∧ Hid (1 = 1) ∧ Hid (0 = 0) ∧ Hid (0 = 0) ∧ Hid (0 = 0)) ∨
    (a = true ∧ zV V.sun = false ∧ decide (939524096 ≤ V.sun 2) = false ∧ A1 = X.A ∧ zV A1 = true ∧ zV X.D = true ∧ zV V.rate = false ∧ True ∧ A2 = A1 ∧ Hid (1 = 1) ∧ Hid (1 = 1) ∧ Hid (1 = 1) ∧ Hid (1 = 1) ∧ Hid (1 = 1) ∧ Hid (0 = 0) ∧ Hid (0 = 0)) ∨
    (a = true ∧ zV V.sun = false ∧ decide (939524096 ≤ V.sun 2) = false ∧ A1 = X.A ∧ zV A1 = true ∧ zV X.D = true ∧ zV V.rate = true ∧ decide (V.sun 2 < 805306368) = false ∧ A2 = A1 ∧ Hid (1 = 1) ∧ Hid (1 = 1) ∧ Hid (1 = 1) ∧ Hid (1 = 1) ∧ Hid (1 = 1) ∧ Hid (1 = 1) ∧ Hid (1 = 1)) ∨
    (a = true ∧ zV V.sun = false ∧ decide (939524096 ≤ V.sun 2) = false ∧ A1 = X.A ∧ zV A1 = true ∧ zV X.D = true ∧ zV V.rate = true ∧ decide (V.sun 2 < 805306368) = true ∧ A2 = acrF V.sun ∧ Hid (1 = 1) ∧ Hid (1 = 1) ∧ Hid (1 = 1) ∧ Hid (1 = 1) ∧ Hid (1 = 1) ∧ Hid (1 = 1) ∧ Hid (1 = 1)) := by
  have e1 : sunA X V a = if sunB X V a then acrF V.sun else A1 := by rw [h1]; rfl
  have e2 : sunB X V a = (zV A1 && (a && (zV X.D && (zV V.rate && (!zV V.sun && decide (V.sun 2 < 805306368)))))) := by rw [h1]; rfl
  have e3 : A1 = if sunE V a then fun _ => 0 else X.A := h1
  have e4 : sunE V a = (!a || (zV V.sun || decide (939524096 ≤ V.sun 2))) := rfl
  rw [e1] at h2
  clear e1 h1
  have hx : decide (939524096 ≤ V.sun 2) = true → decide (V.sun 2 < 805306368) = false := fun h => by
    have := of_decide_eq_true h
    exact decide_eq_false (by omega)
  rw [e4] at e3
  clear e4
  generalize decide (939524096 ≤ V.sun 2) = ge at *
  generalize decide (V.sun 2 < 805306368) = lt at *
  generalize zV V.sun = s0 at *
  generalize zV X.D = d at *
  generalize zV V.rate = r at *
  rw [e2] at h2
  clear e2
  have z0 := zV_zero
  cases a <;> cases s0 <;> cases ge <;> simp only [Bool.not_true, Bool.not_false, Bool.true_or, Bool.or_true, Bool.false_or, Bool.or_false, if_true, if_false, Bool.false_eq_true] at e3 <;>
    cases hz : zV A1 <;> cases d <;> cases r <;> cases lt <;> simp_all [Hid]
set_option maxRecDepth 100000 in
set_option maxHeartbeats 60000000 in
theorem sun1_any (X : SSt) (V : SeT) (b v0 q : Nat) (a : Bool) (w : World) (hg : blk w b (ssc X) 205) (hq : blk w q (ptc b) 91) (hv : blk w v0 (sec V) 85) (hS : ∀ i, i < 3 → -4294967296 ≤ V.sun i ∧ V.sun i ≤ 4294967296) : Calls Try.prog 144 #[.bool a, .pointer (some ⟨v0, 0, none⟩), .pointer (some ⟨q, 0, none⟩)] w fun e w' => e = .returned (.agg (vfn (sunTo X V a))) ∧ Below w.heap.size (w.setRow b (ssc ⟨X.D, sunA X V a, X.P, X.g⟩)) w' := by
  unfold sunTo
  obtain ⟨A1, h1⟩ : ∃ A1, A1 = sunA1 X V a := ⟨_, rfl⟩
  obtain ⟨A2, h2⟩ : ∃ A2, A2 = sunA X V a := ⟨_, rfl⟩
  have hc := Lib.hid (sun_cases X V a A1 A2 h1 h2)
  rw [← h2]
  clear h1 h2
  have SC := Lib.hid (fun w => vscale_any A2 4194304 w ⟨by omega, by omega⟩)
  have AC := Lib.hid (fun w => across_any V.sun w hS)
  clear hS
  have E0 := vec_eq0 (fun _ => 0)
  rw [zV_zero] at E0
  have E0b : ∀ w, (Op.equalIn 10000 31 (.agg (vfn fun _ => 0)) (.agg (vfn fun _ => 0))).run Try.prog w = .ok true w := fun w => by have := E0 w; rw [zero_vec] at this; exact this
  clear E0
  have E1 : ∀ w, (Op.equalIn 10000 31 (.agg (vfn V.sun)) (.agg (vfn fun _ => 0))).run Try.prog w = .ok (zV V.sun) w := fun w => by have := vec_eq0 V.sun w; rw [zero_vec] at this; exact this
  have E2 : ∀ w, (Op.equalIn 10000 31 (.agg (vfn A1)) (.agg (vfn fun _ => 0))).run Try.prog w = .ok (zV A1) w := fun w => by have := vec_eq0 A1 w; rw [zero_vec] at this; exact this
  have E3 : ∀ w, (Op.equalIn 10000 31 (.agg (vfn X.D)) (.agg (vfn fun _ => 0))).run Try.prog w = .ok (zV X.D) w := fun w => by have := vec_eq0 X.D w; rw [zero_vec] at this; exact this
  have E4 : ∀ w, (Op.equalIn 10000 31 (.agg (vfn V.rate)) (.agg (vfn fun _ => 0))).run Try.prog w = .ok (zV V.rate) w := fun w => by have := vec_eq0 V.rate w; rw [zero_vec] at this; exact this
  rcases hc.out with h | h | h | h | h | h | h | h | h | h | h | h
  all_goals
    obtain ⟨rfl, hs0, hge, hA1, hz, hd, hr, hlt, hA2, g1, g2, g3, g4, g5, g6, g7⟩ := h
    rw [hz] at E2
    try rw [hs0] at E1
    try rw [hd] at E3
    try rw [hr] at E4
    replace hA1 := Lib.hid hA1
    replace hA2 := Lib.hid hA2
    clear hc hz hs0 hd hr
    have gl := hg.lt
    have ql := hq.lt
    have vl := hv.lt
    have ne_q_g : q ≠ b := fun h => by
      subst h
      have h1 := hg.cellIs (i := 0) (v := .int .i64 (X.D 0)) rfl
      have h2 := hq.cellIs (i := 0) (v := .pointer (some ⟨q, 0, none⟩)) rfl
      rw [h1] at h2; cases h2
    have ne_v_g : v0 ≠ b := fun h => by
      subst h
      have h1 := hg.cellIs (i := 11) (v := .bool true) rfl
      have h2 := hv.cellIs (i := 11) (v := .int .i64 (V.att 0)) rfl
      rw [h1] at h2; cases h2
    go_enter Try.func144, Try.ntmps144
    go_upto_region 1 with (fail)
    simp only [zero_vec]
    have r : blk (w.alloc (.cells (vfn fun _ => 0) 31)) w.heap.size (vfn fun _ => 0) 31 := blk.new _ _ _
    have hB : Below w.heap.size w (w.alloc (.cells (vfn fun _ => 0) 31)) := by go_grown
    generalize (w.alloc (.cells (vfn fun _ => 0) 31)) = w0 at *
    have g : blk w0 b (ssc X) 205 := hg.below hB hg.lt
    have qb : blk w0 q (ptc b) 91 := hq.below hB hq.lt
    have vb : blk w0 v0 (sec V) 85 := hv.below hB hv.lt
    have ne_r_g : w.heap.size ≠ b := by omega
    have ne_r_qb : w.heap.size ≠ q := by omega
    have ne_r_vb : w.heap.size ≠ v0 := by omega
    have ne_qb_g : q ≠ b := ne_q_g
    have ne_vb_g : v0 ≠ b := ne_v_g
    clear hq hv
    replace hB : Save b b w w0 := Save.of hB
    go_upto_region 2 with (fail)
    simp only [zero_vec]
    have zz := blk.new w0 (vfn (fun _ => 0)) 31
    have le_0 := hB.size
    replace hB := hB.alloc hB.size (.cells (vfn (fun _ => 0)) 31)
    have ne_r_zz : w.heap.size ≠ w0.heap.size := Nat.ne_of_lt r.lt
    replace r := r.alloc (.cells (vfn (fun _ => 0)) 31)
    have ne_g_zz : b ≠ w0.heap.size := Nat.ne_of_lt g.lt
    replace g := g.alloc (.cells (vfn (fun _ => 0)) 31)
    have ne_qb_zz : q ≠ w0.heap.size := Nat.ne_of_lt qb.lt
    replace qb := qb.alloc (.cells (vfn (fun _ => 0)) 31)
    have ne_vb_zz : v0 ≠ w0.heap.size := Nat.ne_of_lt vb.lt
    replace vb := vb.alloc (.cells (vfn (fun _ => 0)) 31)
    have le_zz := le_0
    generalize w0.alloc (.cells (vfn (fun _ => 0)) 31) = w1 at *
    generalize w0.heap.size = zz_b at *
    have lt_r := r.lt
    have lt_g := g.lt
    have lt_qb := qb.lt
    have lt_vb := vb.lt
    have lt_zz := zz.lt
    have hW0 : w.heap.size ≤ w1.heap.size := by simpa using hB.size
    apply wp_region_Q 14 [0, 1, 3, 7, 15, 31, 63, 127, 255, 511, 1023, 2047, 4095, 8191] [] [_, _, _, _, _, _, _, _, _, _, _, _, _, _] (fun p L w' => w1.heap.size ≤ w'.heap.size ∧ Save b b w w' ∧ blk w' w.heap.size (vfn fun _ => 0) 31 ∧ blk w' b (ssc X) 205 ∧ blk w' q (ptc b) 91 ∧ blk w' v0 (sec V) 85 ∧ blk w' zz_b (vfn (fun _ => 0)) 31) _ [(0, 9), (1, 10), (2, 11), (3, 12), (4, 13), (5, 14), (6, 15), (7, 16), (8, 17), (9, 18), (10, 19), (11, 20), (12, 21), (13, 22)] [0, 1, 2, 3, 4, 5, 6, 7, 8, 9, 10, 11, 12, 13]
    case hn => rfl
    case hB => kernel_rfl
    case hds => kernel_rfl
    case hA => (intro p; simp only [putsD, Act.put, sIT, sCZ, sCS, gCZ, gCS]; exact rfl)
    case h0 => exact fun p => ⟨Nat.le_refl _, hB, r, g, qb, vb, zz⟩
    case hmore => exact fun p L w1 w2 ⟨hsz, hB, r, g, qb, vb, zz⟩ hm => ⟨Nat.le_trans hsz hm.size, hB.trans (hm.mono (Nat.le_trans hW0 hsz)), r.below hm r.lt, g.below hm g.lt, qb.below hm qb.lt, vb.below hm vb.lt, zz.below hm zz.lt⟩
    case hs =>
      intro more
      iterate 3 (refine stepV _ rfl rfl (fun _ _ _ h => h) (by intros; go_simp; exact ⟨rfl, rfl⟩) ?_)
      first
        | (have hh : Hid (0 = 0) := g1; iterate 4 (refine AllI.cons (stepI_off _ rfl (fun p => rfl) (fun p => rfl) (fun _ _ _ h => h)) ?_))
        | (refine stepVg _ rfl (fun p => (by first | rfl | (simp [Region.wanted, yielded]; done))) (fun _ _ _ h => h) (by intros; go_simp; exact ⟨rfl, rfl⟩) ?_
           refine stepVg 4 rfl (fun p => (by first | rfl | (simp [Region.wanted, yielded]; done))) (fun _ _ _ h => h) ?_ ?_
           · rintro p L w1 ⟨hsz, hB, r, g, qb, vb, zz⟩ hk
             exact valR_part _ _ rfl _ 8 rfl _ _ vb (vfn V.sun) (se_s V) _ Try.underlying31 rfl (by rw [vfn_size]; kernel_rfl) rfl
           refine stepVg 5 rfl (fun p => (by first | rfl | (simp [Region.wanted, yielded]; done))) (fun _ _ _ h => h) ?_ ?_
           · rintro p L w1 ⟨hsz, hB, r, g, qb, vb, zz⟩ hk
             first | exact valR_row _ _ rfl _ rfl _ _ zz _ Try.underlying31 rfl (by first | kernel_rfl | (rw [vfn_size]; kernel_rfl)) rfl | (have hc := zz.cellIs (vfn_get _ (show 0 < 3 by omega)); go_simp; exact ⟨rfl, rfl⟩)
           refine stepVg _ rfl (fun p => (by first | rfl | (simp [Region.wanted, yielded]; done))) (fun _ _ _ h => h) (by intros; go_simp; exact ⟨rfl, rfl⟩) ?_)
      iterate 2 (refine stepV _ rfl rfl (fun _ _ _ h => h) (by intros; go_simp; exact ⟨rfl, rfl⟩) ?_)
      first
        | (have hh : Hid (0 = 0) := g2; iterate 4 (refine AllI.cons (stepI_off _ rfl (fun p => rfl) (fun p => rfl) (fun _ _ _ h => h)) ?_))
        | (iterate 2 (refine stepVg _ rfl (fun p => (by first | rfl | (simp [Region.wanted, yielded]; done))) (fun _ _ _ h => h) (by intros; go_simp; exact ⟨rfl, rfl⟩) ?_)
           refine stepVg 11 rfl (fun p => (by first | rfl | (simp [Region.wanted, yielded]; done))) (fun _ _ _ h => h) ?_ ?_
           · rintro p L w1 ⟨hsz, hB, r, g, qb, vb, zz⟩ hk
             have hc : w1.cell? ⟨v0, 10, none⟩ = some (.int .i64 (V.sun 2)) := vb.cellIs rfl
             go_simp
             exact ⟨rfl, rfl⟩
           refine stepVg _ rfl (fun p => (by first | rfl | (simp [Region.wanted, yielded]; done))) (fun _ _ _ h => h) (by intros; go_simp; exact ⟨rfl, rfl⟩) ?_)
      refine stepV _ rfl rfl (fun _ _ _ h => h) (by intros; go_simp; exact ⟨rfl, rfl⟩) ?_
      exact AllI.nil
    case hV0 => exact fun p q => AllI.nil
    case he =>
    clear hB r g qb vb zz
    rintro p w1r ⟨hsz, hB, r, g, qb, vb, zz⟩
    clear lt_r lt_g lt_qb lt_vb lt_zz hsz hW0
    first
      | (have hA : A1 = fun _ => 0 := hA1.out
         clear hA
         go_upto_region 3 with (fail)
         have lt_r := r.lt
         have lt_g := g.lt
         have lt_qb := qb.lt
         have lt_vb := vb.lt
         have lt_zz := zz.lt
         have hW0 : w.heap.size ≤ w1r.heap.size := by simpa using hB.size
         apply wp_region_Q 6 [0, 1, 3, 7, 15, 31] [] [_, _, _, _, _, (fun _ => undef)] (fun p L w' => w1r.heap.size ≤ w'.heap.size ∧ Save b b w w' ∧ blk w' w.heap.size (vfn fun _ => 0) 31 ∧ blk w' b (bif L 5 then (ssc ⟨X.D, fun _ => 0, X.P, X.g⟩) else (ssc X)) 205 ∧ blk w' q (ptc b) 91 ∧ blk w' v0 (sec V) 85 ∧ blk w' zz_b (vfn (fun _ => 0)) 31) _ [(0, 23), (1, 24), (2, 25), (3, 26), (4, 27)] [0, 1, 2, 3, 4, 5]
         case hn => rfl
         case hB => kernel_rfl
         case hds => kernel_rfl
         case hA => (intro p; simp only [putsD, Act.put, sIT, sCZ, sCS, gCZ, gCS]; exact rfl)
         case h0 => exact fun p => ⟨Nat.le_refl _, hB, r, g, qb, vb, zz⟩
         case hmore => exact fun p L w1 w2 ⟨hsz, hB, r, g, qb, vb, zz⟩ hm => ⟨Nat.le_trans hsz hm.size, hB.trans (hm.mono (Nat.le_trans hW0 hsz)), r.below hm r.lt, g.below hm g.lt, qb.below hm qb.lt, vb.below hm vb.lt, zz.below hm zz.lt⟩
         case hs =>
           intro more
           refine stepV 0 rfl rfl (fun _ _ _ h => h) ?_ ?_
           · rintro p L w1 ⟨hsz, hB, r, g, qb, vb, zz⟩ hk
             have L5 : L 5 = false := hk.2.2 5 rfl
             have hc : w1.cell? ⟨q, 0, none⟩ = some (.pointer (some ⟨b, 0, none⟩)) := qb.cellIs rfl
             go_simp
             exact ⟨rfl, rfl⟩
           refine stepV 1 rfl rfl (fun _ _ _ h => h) ?_ ?_
           · rintro p L w1 ⟨hsz, hB, r, g, qb, vb, zz⟩ hk
             have L5 : L 5 = false := hk.2.2 5 rfl
             first | exact valR_row _ _ rfl _ rfl _ _ zz _ Try.underlying31 rfl (by first | kernel_rfl | (rw [vfn_size]; kernel_rfl)) rfl | (have hc := zz.cellIs (vfn_get _ (show 0 < 3 by omega)); go_simp; exact ⟨rfl, rfl⟩)
           iterate 3 (refine stepV _ rfl rfl (fun _ _ _ h => h) (by intros; go_simp; exact ⟨rfl, rfl⟩) ?_)
           refine AllI.cons ?_ ?_
           · refine stepI_store 5 rfl (fun p => rfl) (fun p => rfl) _ _ _ rfl (fun _ => b) 3 (fun p => rfl) (fun p => (vfn (fun _ => 0))) (fun p => rfl) (fun p => (ssc X)) (fun p => (ssc ⟨X.D, fun _ => 0, X.P, X.g⟩)) 205 (fun p => over_sa _ _ _ _ _) (fun p => by first | (rw [vfn_size, ssc_size]; decide) | simp [vfn_size, ssc_size]) (fun p => by rw [vfn_size]; kernel_rfl) (fun p => vfn_one _) ?_ ?_
             · rintro p L w1 ⟨hsz, hB, r, g, qb, vb, zz⟩ hk
               have L5 : L 5 = false := hk.1
               rw [L5] at g
               try simp only [cond_true, cond_false] at g
               exact g
             · rintro p L w1 ⟨hsz, hB, r, g, qb, vb, zz⟩ hk
               have L5 : L 5 = false := hk.1
               skip
               refine ⟨(by simpa using hsz), hB.row (by first | exact .inr (Nat.le_trans hW0 hp.1) | exact .inr ge_g | exact .inl ⟨Nat.le_refl _, Nat.le_refl _⟩ | omega | (have := hB.size; simp at this ⊢; omega)) _, r.rowOther ne_r_g _, ?_, qb.rowOther ne_qb_g _, vb.rowOther ne_vb_g _, zz.rowOther (Ne.symm ne_g_zz) _⟩
               rw [show upL L 5 5 = true from rfl]
               exact g.row _
           exact AllI.nil
         case hV0 => exact fun p q => AllI.nil
         case' he =>
         clear hB r g qb vb zz
         rintro p w1r ⟨hsz, hB, r, g, qb, vb, zz⟩
         replace g : blk w1r b (ssc ⟨X.D, fun _ => 0, X.P, X.g⟩) 205 := g
         clear lt_r lt_g lt_qb lt_vb lt_zz hsz hW0
         go_upto_region 4 with (fail))
      | (go_upto_region 4 with (fail))
    replace g : blk w1r b (ssc ⟨X.D, A1, X.P, X.g⟩) 205 := by rw [hA1.out]; exact g
    clear hA1
    have lt_r := r.lt
    have lt_g := g.lt
    have lt_qb := qb.lt
    have lt_vb := vb.lt
    have lt_zz := zz.lt
    have hW0 : w.heap.size ≤ w1r.heap.size := by simpa using hB.size
    apply wp_region_I 37 [0, 1, 3, 7, 15, 0, 63, 127, 255, 511, 1023, 2047, 4095, 8191, 16383, 32767, 2047, 131071, 262143, 524287, 1048575, 2097151, 1048575, 8388607, 16777215, 33554431, 67108863, 134217727, 67108863, 536870911, 1073741823, 2147483647, 4294967295, 8589934591, 17179869183, 34359738367, 68719476735] [] [_, _, _, _, _, _, _, _, _, _, _, _, _, _, _, _, _, _, _, _, _, _, _, _, _, _, _, _, _, _, _, _, _, _, _, _, _] (fun p L w' => w1r.heap.size ≤ w'.heap.size ∧ Save b b w w' ∧ blk w' w.heap.size (vfn fun _ => 0) 31 ∧ blk w' b (ssc ⟨X.D, A1, X.P, X.g⟩) 205 ∧ blk w' q (ptc b) 91 ∧ blk w' v0 (sec V) 85 ∧ blk w' zz_b (vfn (fun _ => 0)) 31) _ [(0, 28), (1, 29), (2, 30), (3, 31), (4, 32), (5, 33), (6, 34), (7, 35), (8, 36), (9, 37), (10, 38), (11, 39), (12, 40), (13, 41), (14, 42), (15, 43), (16, 44), (17, 45), (18, 46), (19, 47), (20, 48), (21, 49), (22, 50), (23, 51), (24, 52), (25, 53), (26, 54), (27, 55), (28, 56), (29, 57), (30, 58), (31, 59), (32, 60), (33, 61), (34, 62), (35, 63), (36, 64)] [0, 1, 2, 3, 4, 5, 6, 7, 8, 9, 10, 11, 12, 13, 14, 15, 16, 17, 18, 19, 20, 21, 22, 23, 24, 25, 26, 27, 28, 29, 30, 31, 32, 33, 34, 35, 36]
    case hn => rfl
    case hm => kernel_rfl
    case hB => kernel_rfl
    case hds => kernel_rfl
    case hA => (intro p; simp only [putsD, Act.put, sIT, sCZ, sCS, gCZ, gCS]; exact rfl)
    case h0 => exact fun p => ⟨Nat.le_refl _, hB.drew, r.drew, g.drew, qb.drew, vb.drew, zz.drew⟩
    case hmore => exact fun p L w1 w2 ⟨hsz, hB, r, g, qb, vb, zz⟩ hm => ⟨Nat.le_trans hsz hm.size, hB.trans (hm.mono (Nat.le_trans hW0 hsz)), r.below hm r.lt, g.below hm g.lt, qb.below hm qb.lt, vb.below hm vb.lt, zz.below hm zz.lt⟩
    case hs =>
      intro more
      refine stepV 0 rfl rfl (fun _ _ _ h => h) ?_ ?_
      · rintro p L w1 ⟨hsz, hB, r, g, qb, vb, zz⟩ hk
        have hc : w1.cell? ⟨q, 0, none⟩ = some (.pointer (some ⟨b, 0, none⟩)) := qb.cellIs rfl
        go_simp
        exact ⟨rfl, rfl⟩
      iterate 3 (refine stepV _ rfl rfl (fun _ _ _ h => h) (by intros; go_simp; exact ⟨rfl, rfl⟩) ?_)
      refine stepV 4 rfl rfl (fun _ _ _ h => h) ?_ ?_
      · rintro p L w1 ⟨hsz, hB, r, g, qb, vb, zz⟩ hk
        exact valR_part _ _ rfl _ 3 rfl _ _ g (vfn A1) (st_a ⟨X.D, A1, X.P, X.g⟩) _ Try.underlying31 rfl (by rw [vfn_size]; kernel_rfl) rfl
      refine stepV 5 rfl rfl (fun _ _ _ h => h) ?_ ?_
      · rintro p L w1 ⟨hsz, hB, r, g, qb, vb, zz⟩ hk
        first | exact valR_row _ _ rfl _ rfl _ _ zz _ Try.underlying31 rfl (by first | kernel_rfl | (rw [vfn_size]; kernel_rfl)) rfl | (have hc := zz.cellIs (vfn_get _ (show 0 < 3 by omega)); go_simp; exact ⟨rfl, rfl⟩)
      iterate 2 (refine stepV _ rfl rfl (fun _ _ _ h => h) (by intros; go_simp; exact ⟨rfl, rfl⟩) ?_)
      first
        | (have hh : Hid (0 = 0) := g3; refine AllI.cons (stepI_off _ rfl (fun p => rfl) (fun p => rfl) (fun _ _ _ h => h)) ?_)
        | (refine stepVg _ rfl (fun p => (by first | rfl | (simp [Region.wanted, yielded]; done))) (fun _ _ _ h => h) (by intros; go_simp; exact ⟨rfl, rfl⟩) ?_)
      iterate 2 (refine stepV _ rfl rfl (fun _ _ _ h => h) (by intros; go_simp; exact ⟨rfl, rfl⟩) ?_)
      first
        | (have hh : Hid (0 = 0) := g4; iterate 7 (refine AllI.cons (stepI_off _ rfl (fun p => rfl) (fun p => rfl) (fun _ _ _ h => h)) ?_))
        | (refine stepVg 11 rfl (fun p => (by first | rfl | (simp [Region.wanted, yielded]; done))) (fun _ _ _ h => h) ?_ ?_
           · rintro p L w1 ⟨hsz, hB, r, g, qb, vb, zz⟩ hk
             have hc : w1.cell? ⟨q, 0, none⟩ = some (.pointer (some ⟨b, 0, none⟩)) := qb.cellIs rfl
             go_simp
             exact ⟨rfl, rfl⟩
           iterate 3 (refine stepVg _ rfl (fun p => (by first | rfl | (simp [Region.wanted, yielded]; done))) (fun _ _ _ h => h) (by intros; go_simp; exact ⟨rfl, rfl⟩) ?_)
           refine stepVg 15 rfl (fun p => (by first | rfl | (simp [Region.wanted, yielded]; done))) (fun _ _ _ h => h) ?_ ?_
           · rintro p L w1 ⟨hsz, hB, r, g, qb, vb, zz⟩ hk
             exact valR_part _ _ rfl _ 0 rfl _ _ g (vfn X.D) (st_d ⟨X.D, A1, X.P, X.g⟩) _ Try.underlying31 rfl (by rw [vfn_size]; kernel_rfl) rfl
           refine stepVg 16 rfl (fun p => (by first | rfl | (simp [Region.wanted, yielded]; done))) (fun _ _ _ h => h) ?_ ?_
           · rintro p L w1 ⟨hsz, hB, r, g, qb, vb, zz⟩ hk
             first | exact valR_row _ _ rfl _ rfl _ _ zz _ Try.underlying31 rfl (by first | kernel_rfl | (rw [vfn_size]; kernel_rfl)) rfl | (have hc := zz.cellIs (vfn_get _ (show 0 < 3 by omega)); go_simp; exact ⟨rfl, rfl⟩)
           refine stepVg _ rfl (fun p => (by first | rfl | (simp [Region.wanted, yielded]; done))) (fun _ _ _ h => h) (by intros; go_simp; exact ⟨rfl, rfl⟩) ?_)
      iterate 2 (refine stepV _ rfl rfl (fun _ _ _ h => h) (by intros; go_simp; exact ⟨rfl, rfl⟩) ?_)
      first
        | (have hh : Hid (0 = 0) := g5; iterate 4 (refine AllI.cons (stepI_off _ rfl (fun p => rfl) (fun p => rfl) (fun _ _ _ h => h)) ?_))
        | (refine stepVg _ rfl (fun p => (by first | rfl | (simp [Region.wanted, yielded]; done))) (fun _ _ _ h => h) (by intros; go_simp; exact ⟨rfl, rfl⟩) ?_
           refine stepVg 21 rfl (fun p => (by first | rfl | (simp [Region.wanted, yielded]; done))) (fun _ _ _ h => h) ?_ ?_
           · rintro p L w1 ⟨hsz, hB, r, g, qb, vb, zz⟩ hk
             exact valR_part _ _ rfl _ 0 rfl _ _ vb (vfn V.rate) (se_r V) _ Try.underlying31 rfl (by rw [vfn_size]; kernel_rfl) rfl
           refine stepVg 22 rfl (fun p => (by first | rfl | (simp [Region.wanted, yielded]; done))) (fun _ _ _ h => h) ?_ ?_
           · rintro p L w1 ⟨hsz, hB, r, g, qb, vb, zz⟩ hk
             first | exact valR_row _ _ rfl _ rfl _ _ zz _ Try.underlying31 rfl (by first | kernel_rfl | (rw [vfn_size]; kernel_rfl)) rfl | (have hc := zz.cellIs (vfn_get _ (show 0 < 3 by omega)); go_simp; exact ⟨rfl, rfl⟩)
           refine stepVg _ rfl (fun p => (by first | rfl | (simp [Region.wanted, yielded]; done))) (fun _ _ _ h => h) (by intros; go_simp; exact ⟨rfl, rfl⟩) ?_)
      iterate 2 (refine stepV _ rfl rfl (fun _ _ _ h => h) (by intros; go_simp; exact ⟨rfl, rfl⟩) ?_)
      first
        | (have hh : Hid (0 = 0) := g6; iterate 4 (refine AllI.cons (stepI_off _ rfl (fun p => rfl) (fun p => rfl) (fun _ _ _ h => h)) ?_))
        | (refine stepVg _ rfl (fun p => (by first | rfl | (simp [Region.wanted, yielded]; done))) (fun _ _ _ h => h) (by intros; go_simp; exact ⟨rfl, rfl⟩) ?_
           refine stepVg 27 rfl (fun p => (by first | rfl | (simp [Region.wanted, yielded]; done))) (fun _ _ _ h => h) ?_ ?_
           · rintro p L w1 ⟨hsz, hB, r, g, qb, vb, zz⟩ hk
             exact valR_part _ _ rfl _ 8 rfl _ _ vb (vfn V.sun) (se_s V) _ Try.underlying31 rfl (by rw [vfn_size]; kernel_rfl) rfl
           refine stepVg 28 rfl (fun p => (by first | rfl | (simp [Region.wanted, yielded]; done))) (fun _ _ _ h => h) ?_ ?_
           · rintro p L w1 ⟨hsz, hB, r, g, qb, vb, zz⟩ hk
             first | exact valR_row _ _ rfl _ rfl _ _ zz _ Try.underlying31 rfl (by first | kernel_rfl | (rw [vfn_size]; kernel_rfl)) rfl | (have hc := zz.cellIs (vfn_get _ (show 0 < 3 by omega)); go_simp; exact ⟨rfl, rfl⟩)
           refine stepVg _ rfl (fun p => (by first | rfl | (simp [Region.wanted, yielded]; done))) (fun _ _ _ h => h) (by intros; go_simp; exact ⟨rfl, rfl⟩) ?_)
      iterate 2 (refine stepV _ rfl rfl (fun _ _ _ h => h) (by intros; go_simp; exact ⟨rfl, rfl⟩) ?_)
      first
        | (have hh : Hid (0 = 0) := g7; iterate 4 (refine AllI.cons (stepI_off _ rfl (fun p => rfl) (fun p => rfl) (fun _ _ _ h => h)) ?_))
        | (iterate 2 (refine stepVg _ rfl (fun p => (by first | rfl | (simp [Region.wanted, yielded]; done))) (fun _ _ _ h => h) (by intros; go_simp; exact ⟨rfl, rfl⟩) ?_)
           refine stepVg 34 rfl (fun p => (by first | rfl | (simp [Region.wanted, yielded]; done))) (fun _ _ _ h => h) ?_ ?_
           · rintro p L w1 ⟨hsz, hB, r, g, qb, vb, zz⟩ hk
             have hc : w1.cell? ⟨v0, 10, none⟩ = some (.int .i64 (V.sun 2)) := vb.cellIs rfl
             go_simp
             exact ⟨rfl, rfl⟩
           refine stepVg _ rfl (fun p => (by first | rfl | (simp [Region.wanted, yielded]; done))) (fun _ _ _ h => h) (by intros; go_simp; exact ⟨rfl, rfl⟩) ?_)
      refine stepV _ rfl rfl (fun _ _ _ h => h) (by intros; go_simp; exact ⟨rfl, rfl⟩) ?_
      exact AllI.nil
    case hV0 => exact fun p q => AllI.nil
    case he =>
    clear hB r g qb vb zz
    rintro p w1rr ⟨hsz, hB, r, g, qb, vb, zz⟩
    clear lt_r lt_g lt_qb lt_vb lt_zz hsz hW0
    first
      | (have hA : A2 = acrF V.sun := hA2.out
         clear hA
         go_upto_region 5 with (fail)
         have lt_r := r.lt
         have lt_g := g.lt
         have lt_qb := qb.lt
         have lt_vb := vb.lt
         have lt_zz := zz.lt
         have hW0 : w.heap.size ≤ w1rr.heap.size := by simpa using hB.size
         apply wp_region_I 8 [0, 0, 2, 6, 15, 31, 63, 127] [] [_, _, _, _, _, _, _, (fun _ => undef)] (fun p L w' => w1rr.heap.size ≤ w'.heap.size ∧ Save b b w w' ∧ blk w' w.heap.size (vfn fun _ => 0) 31 ∧ blk w' b (bif L 7 then (ssc ⟨X.D, acrF V.sun, X.P, X.g⟩) else (ssc ⟨X.D, A1, X.P, X.g⟩)) 205 ∧ blk w' q (ptc b) 91 ∧ blk w' v0 (sec V) 85 ∧ blk w' zz_b (vfn (fun _ => 0)) 31) _ [(0, 65), (1, 66), (2, 67), (3, 68), (4, 69), (5, 70), (6, 71)] [0, 1, 2, 3, 4, 5, 6, 7]
         case hn => rfl
         case hm => kernel_rfl
         case hB => kernel_rfl
         case hds => kernel_rfl
         case hA => (intro p; simp only [putsD, Act.put, sIT, sCZ, sCS, gCZ, gCS]; exact rfl)
         case h0 => exact fun p => ⟨Nat.le_refl _, hB.drew, r.drew, g.drew, qb.drew, vb.drew, zz.drew⟩
         case hmore => exact fun p L w1 w2 ⟨hsz, hB, r, g, qb, vb, zz⟩ hm => ⟨Nat.le_trans hsz hm.size, hB.trans (hm.mono (Nat.le_trans hW0 hsz)), r.below hm r.lt, g.below hm g.lt, qb.below hm qb.lt, vb.below hm vb.lt, zz.below hm zz.lt⟩
         case hs =>
           intro more
           refine stepV 0 rfl rfl (fun _ _ _ h => h) ?_ ?_
           · rintro p L w1 ⟨hsz, hB, r, g, qb, vb, zz⟩ hk
             have L7 : L 7 = false := hk.2.2 7 rfl
             have hc : w1.cell? ⟨q, 0, none⟩ = some (.pointer (some ⟨b, 0, none⟩)) := qb.cellIs rfl
             go_simp
             exact ⟨rfl, rfl⟩
           refine stepV _ rfl rfl (fun _ _ _ h => h) (by intros; go_simp; exact ⟨rfl, rfl⟩) ?_
           refine stepV 2 rfl rfl (fun _ _ _ h => h) ?_ ?_
           · rintro p L w1 ⟨hsz, hB, r, g, qb, vb, zz⟩ hk
             have L7 : L 7 = false := hk.2.2 7 rfl
             exact valR_part _ _ rfl _ 8 rfl _ _ vb (vfn V.sun) (se_s V) _ Try.underlying31 rfl (by rw [vfn_size]; kernel_rfl) rfl
           refine stepD 3 rfl (fun p => rfl) (fun _ _ _ h => h) more ?_ ?_
           · rintro p L w1 ⟨hsz, hB, r, g, qb, vb, zz⟩ hk
             go_simp
             refine (AC.out _).mono ?_
             rintro e w2 ⟨rfl, h2⟩
             first | exact ⟨rfl, h2⟩ | (subst h2; exact ⟨rfl, Below.refl _ _⟩)
           iterate 3 (refine stepV _ rfl rfl (fun _ _ _ h => h) (by intros; go_simp; exact ⟨rfl, rfl⟩) ?_)
           refine AllI.cons ?_ ?_
           · refine stepI_store 7 rfl (fun p => rfl) (fun p => rfl) _ _ _ rfl (fun _ => b) 3 (fun p => rfl) (fun p => (vfn (acrF V.sun))) (fun p => rfl) (fun p => (ssc ⟨X.D, A1, X.P, X.g⟩)) (fun p => (ssc ⟨X.D, acrF V.sun, X.P, X.g⟩)) 205 (fun p => over_sa _ _ _ _ _) (fun p => by first | (rw [vfn_size, ssc_size]; decide) | simp [vfn_size, ssc_size]) (fun p => by rw [vfn_size]; kernel_rfl) (fun p => vfn_one _) ?_ ?_
             · rintro p L w1 ⟨hsz, hB, r, g, qb, vb, zz⟩ hk
               have L7 : L 7 = false := hk.1
               rw [L7] at g
               try simp only [cond_true, cond_false] at g
               exact g
             · rintro p L w1 ⟨hsz, hB, r, g, qb, vb, zz⟩ hk
               have L7 : L 7 = false := hk.1
               skip
               refine ⟨(by simpa using hsz), hB.row (by first | exact .inr (Nat.le_trans hW0 hp.1) | exact .inr ge_g | exact .inl ⟨Nat.le_refl _, Nat.le_refl _⟩ | omega | (have := hB.size; simp at this ⊢; omega)) _, r.rowOther ne_r_g _, ?_, qb.rowOther ne_qb_g _, vb.rowOther ne_vb_g _, zz.rowOther (Ne.symm ne_g_zz) _⟩
               rw [show upL L 7 7 = true from rfl]
               exact g.row _
           exact AllI.nil
         case hV0 => exact fun p q => AllI.nil
         case' he =>
         clear hB r g qb vb zz
         rintro p w1rr ⟨hsz, hB, r, g, qb, vb, zz⟩
         replace g : blk w1rr b (ssc ⟨X.D, acrF V.sun, X.P, X.g⟩) 205 := g
         clear lt_r lt_g lt_qb lt_vb lt_zz hsz hW0
         go_upto_region 6 with (fail))
      | (go_upto_region 6 with (fail))
    replace g : blk w1rr b (ssc ⟨X.D, A2, X.P, X.g⟩) 205 := by rw [hA2.out]; exact g
    clear hA2 AC
    have cq : w1rr.cell? ⟨q, 0, none⟩ = some (.pointer (some ⟨b, 0, none⟩)) := qb.cellIs rfl
    clear qb vb zz
    go_upto_region 7 with (first
      | (go_at_call 146; with_reducible refine (SC.out _).mono ?_; rintro e wsc ⟨rfl, hb⟩; replace hB := hB.trans (hb.mono hB.size); replace r := r.below hb r.lt; replace g := g.below hb g.lt; clear hb)
      | (refine wpList_load_part ?hw _ _ rfl _ 3 rfl _ _ g (vfn A2) (st_a ⟨X.D, A2, X.P, X.g⟩) _ Try.underlying31 rfl ?hi ?_; (case hw => (first | rfl | (simp [Region.wanted, yielded]; done))); (case hi => (rw [vfn_size]; kernel_rfl)))
      | (rw [zero_vec]; refine wpList_store_row rfl _ _ _ rfl _ rfl _ rfl _ _ (blk.new _ _ _) (by first | kernel_rfl | (rw [vfn_size]; kernel_rfl)) (by first | rfl | simp only [vfn_size]) (by first | exact vfn_one _ | rfl) ?_))
    clear cq
    have x := (blk.new wsc (vfn fun _ => 0) 31).row (vfn (vscaleF A2 4194304))
    replace hB := (hB.alloc hB.size (.cells (vfn fun _ => 0) 31)).row (g := wsc.heap.size) (.inr hB.size) (vfn (vscaleF A2 4194304))
    have hne : ∀ x, x < wsc.heap.size → x ≠ wsc.heap.size := fun x hx => Nat.ne_of_lt hx
    replace r := (r.alloc (.cells (vfn fun _ => 0) 31)).rowOther (hne _ r.lt) (vfn (vscaleF A2 4194304))
    replace g := (g.alloc (.cells (vfn fun _ => 0) 31)).rowOther (hne _ g.lt) (vfn (vscaleF A2 4194304))
    clear hne
    generalize (wsc.alloc (.cells (vfn fun _ => 0) 31)).setRow wsc.heap.size (vfn (vscaleF A2 4194304)) = wscx at *
    generalize wsc.heap.size = x_b at *
    go_wp2_with (first
      | (refine wpList_load_rowG ?hw _ _ rfl _ rfl _ _ _ _ x Try.underlying31 rfl ?hi ?_; (case hw => (first | rfl | (simp [Region.wanted, yielded]; done))); (case hi => (first | kernel_rfl | (rw [vfn_size]; kernel_rfl))))
      | (refine wpList_store_row rfl _ _ _ rfl _ rfl _ rfl _ _ r (by first | kernel_rfl | (rw [vfn_size]; kernel_rfl)) (by first | rfl | simp only [vfn_size]) (by first | exact vfn_one _ | rfl) ?_))
    refine bodyPost_ret (results_cell_row rfl _ _ _ _ _ _ _ rfl (r.row (vfn (vscaleF A2 4194304))) Try.underlying31 rfl (by rw [vfn_size]; kernel_rfl)) rfl ?_
    exact ⟨rfl, (hB.row (by first | exact .inr (Nat.le_refl _) | exact .inr (by omega)) _).toRow hg (g.rowOther (Ne.symm ne_r_g) _)⟩
end Go.Proofs.Ytkmelddejdikgaa
namespace Go.Proofs.Ytkmelddejdikgaa
open Go.RowKit PM Dt
def sunAx (X : SSt) (V : SeT) : Nat → Int := sunA X V (arrB X V)
def sunT (X : SSt) (V : SeT) : Nat → Int := sunTo X V (arrB X V)
set_option maxRecDepth 100000 in
set_option maxHeartbeats 4000000 in
theorem tsun_gen (X : SSt) (V : SeT) (b : Nat) (w : World) (hg : blk w b (ssc X) 205) (hk : senseOk V = true) (hD : ∀ i, i < 3 → -4194304 ≤ X.D i ∧ X.D i ≤ 4194304) (hT : ∀ i, i < 3 → -1099511627776 ≤ sunT X V i ∧ sunT X V i ≤ 1099511627776) (hC : ∀ v0 q w2, blk w2 b (ssc X) 205 → blk w2 q (ptc b) 91 → blk w2 v0 (sec V) 85 → Calls Try.prog 144 (#[.bool (arrB X V)] ++ #[.pointer (some ⟨v0, 0, none⟩), .pointer (some ⟨q, 0, none⟩)]) w2 fun e w' => e = .returned (.agg (vfn (sunT X V))) ∧ Below w2.heap.size (w2.setRow b (ssc ⟨X.D, sunAx X V, X.P, X.g⟩)) w') : Calls Try.prog 86 #[.pointer (some ⟨b, 0, none⟩), .agg (sec V)] w fun e w' => e = .returned (.tuple #[.agg (qfn (stC X V (sunT X V))), .int .i64 0]) ∧ blk w' b (ssc (stX X V (sunAx X V) (sunT X V))) 205 ∧ Save b b w w' := by
  have ST := Lib.hid (fun w1 v0 q (g : blk w1 b (ssc X) 205) (hv : blk w1 v0 (sec V) 85) (hq : blk w1 q (ptc b) 91) (hne : q ≠ b) (hnv : v0 ≠ b) => tstep_g_any X V b 144 #[.pointer (some ⟨v0, 0, none⟩), .pointer (some ⟨q, 0, none⟩)] (sunAx X V) (sunT X V) w1 g hk hD hT (fun w2 hS hg2 => hC v0 q w2 hg2 (hq.save hS (by omega)) (hv.save hS (by omega))) (hn_of Try.func144 rfl rfl))
  clear hk hD hT hC
  generalize sunT X V = To at *
  generalize sunAx X V = Ax at *
  go_enter Try.func86, Try.ntmps86
  go_upto_region 1 with (fail)
  simp only [show #[Value.pointer (some ⟨b, 0, none⟩)] = ptc b from rfl, zero_spd]
  have pp : blk (((w.alloc (.cells (ptc b) 91)).alloc (.cells (sec V) 85)).alloc (.cells (qfn fun _ => 0) 22)) w.heap.size (ptc b) 91 := ((blk.new _ _ _).alloc _).alloc _
  have v : blk (((w.alloc (.cells (ptc b) 91)).alloc (.cells (sec V) 85)).alloc (.cells (qfn fun _ => 0) 22)) (w.heap.size + 1) (sec V) 85 := (blk.new' (by simp)).alloc _
  have r : blk (((w.alloc (.cells (ptc b) 91)).alloc (.cells (sec V) 85)).alloc (.cells (qfn fun _ => 0) 22)) (w.heap.size + 2) (qfn fun _ => 0) 22 := blk.new' (by simp)
  have hB : Below w.heap.size w (((w.alloc (.cells (ptc b) 91)).alloc (.cells (sec V) 85)).alloc (.cells (qfn fun _ => 0) 22)) := by go_grown
  generalize (((w.alloc (.cells (ptc b) 91)).alloc (.cells (sec V) 85)).alloc (.cells (qfn fun _ => 0) 22)) = w0 at *
  have g : blk w0 b (ssc X) 205 := hg.below hB hg.lt
  have gl := hg.lt
  have ne_pp_g : w.heap.size ≠ b := by omega
  have ne_v_g : (w.heap.size + 1) ≠ b := by omega
  have ne_r_g : (w.heap.size + 2) ≠ b := by omega
  replace hB : Save b b w w0 := Save.of hB
  have cp : w0.cell? ⟨w.heap.size, 0, none⟩ = some (.pointer (some ⟨b, 0, none⟩))   := pp.cellIs rfl
  go_wp2_with (first | (refine wpList_load_rowG ?hw _ _ rfl _ rfl _ _ _ _ v Try.underlying85 rfl ?hi ?_; (case hw => (first | rfl | (simp [Region.wanted, yielded]; done))); (case hi => (first | kernel_rfl | (rw [sec_size]; kernel_rfl)))) | (go_at_call 142; with_reducible refine (ST.out _ _ _ g v pp ne_pp_g ne_v_g).mono ?_; rintro e wz ⟨rfl, g2, hS⟩; replace pp := pp.save hS (by omega); replace v := v.save hS (by omega); replace r := r.save hS (by omega); replace hB := hB.next hS; replace g := g2; clear hS g2) | (refine wpList_store_row rfl _ _ _ rfl _ rfl _ rfl _ _ r (by first | kernel_rfl | (rw [qfn_size]; kernel_rfl)) (by first | rfl | simp only [qfn_size]) (by first | exact qfn_one _ | rfl) ?_))
  refine bodyPost_ret (results_vec rfl _ _ _ _ _ _ _ rfl (r.row (qfn (stC X V To))) Try.underlying22 rfl (by rw [qfn_size]; kernel_rfl)) rfl ?_
  exact ⟨rfl, g.rowOther (Ne.symm ne_r_g) _, hB.row (by first | exact .inr (by omega) | (have := hB.size; omega)) _⟩
theorem tsun_ok (X : SSt) (V : SeT) (b : Nat) (w : World) (hg : blk w b (ssc X) 205) (hk : senseOk V = true) (hD : ∀ i, i < 3 → -4194304 ≤ X.D i ∧ X.D i ≤ 4194304) (hT : ∀ i, i < 3 → -1099511627776 ≤ sunT X V i ∧ sunT X V i ≤ 1099511627776) : Calls Try.prog 86 #[.pointer (some ⟨b, 0, none⟩), .agg (sec V)] w fun e w' => e = .returned (.tuple #[.agg (qfn (stC X V (sunT X V))), .int .i64 0]) ∧ blk w' b (ssc (stX X V (sunAx X V) (sunT X V))) 205 ∧ Save b b w w' := by
  have hsn : ∀ i, i < 3 → -4294967296 ≤ V.sun i ∧ V.sun i ≤ 4294967296 := fun i hi => by
    simp only [senseOk, Bool.and_eq_true] at hk
    have := (sb_iff _ _).1 ((smallB_iff V.sun _).1 hk.2.2 i hi); omega
  exact tsun_gen X V b w hg hk hD hT (fun v0 q w2 g hq hv => sun1_any X V b v0 q (arrB X V) w2 g hq hv hsn)
end Go.Proofs.Ytkmelddejdikgaa
