/-
  Statements on bodies: vectors are seen as specified. The statement on what bodies do.
-/
import Derived.Test.YtjnocbjngojigaaGreatBdH
import Derived.Test.YtjnocbjngojigaaGreatLawQ
import Derived.Test.YtjnocbjngojigaaGreatRtA
import Derived.Test.YtjnocbjngojigaaGreatBdL
import Derived.Test.YtjnocbjngojigaaGreatBdP
import Derived.Test.YtjnocbjngojigaaGreatQEq
set_option linter.unusedSimpArgs false
set_option linter.unusedVariables false
namespace Go.Proofs.YtjnocbjngojigaaGreat
open Go.RowKit PM Dt
theorem results_tct {P : Program} {fn : Func} {o p u : Tmp} {ty : TypeId} (h : fn.results = #[.tmp o, .cell p ty, .tmp u]) (tmps : Array Value) (w : World) (g : Nat) (t : TypeId) (cs : Array Value) (fr : Nat × Nat) (d : TypeDesc)
    (hp : tmps.getD p undef = .pointer (some ⟨g, 0, none⟩)) (hg : w.heap[g]? = some (.cells cs t fr))
    (hu : P.underlying ty = some d) (hd : (match d with | .struct _ | .array _ _ => true | _ => false) = true) (hi : (P.info? ty).map (·.size) = some cs.size) :
    (results fn tmps).run P w = .ok (.tuple #[tmps.getD o undef, .agg cs, tmps.getD u undef]) w := by
  have hp' : tmps[p]?.getD undef = .pointer (some ⟨g, 0, none⟩) := by simpa using hp
  simp only [results, h]
  simp [Sem.run_bind, hp', asAddr, run_loadVar_row w g t ty cs fr d hg hu hd hi, Result.andThen]
set_option maxRecDepth 100000 in
set_option maxHeartbeats 6000000 in
theorem made_no (x : BSt) (w : World) (hQ : ∀ i, i < 4 → I64 (x.Q i)) (hk : newOk x = false) : Calls Tryz.prog 16 #[.agg (rbc x)] w fun e w' => e = .returned (.tuple #[.pointer none, .agg (rbc BSt.zero), .bool true]) ∧ Below w.heap.size w w' := by
  have NB := Lib.hid (fun w => bnew_no x w hQ hk)
  have NR := Lib.hid (fun w => rbnew_no x w hQ hk)
  clear hQ hk
  go_enter Tryz.func16, Tryz.ntmps16
  go_upto_region 1 with (fail)
  simp only [rbc_zero]
  have v : blk ((w.alloc (.cells (rbc x) 46)).alloc (.cells (rbc BSt.zero) 52)) w.heap.size (rbc x) 46 := (blk.new _ _ _).alloc _
  have m : blk ((w.alloc (.cells (rbc x) 46)).alloc (.cells (rbc BSt.zero) 52)) (w.heap.size + 1) (rbc BSt.zero) 52 := blk.new' (by simp)
  have hB : Below w.heap.size w ((w.alloc (.cells (rbc x) 46)).alloc (.cells (rbc BSt.zero) 52)) := by go_grown
  generalize ((w.alloc (.cells (rbc x) 46)).alloc (.cells (rbc BSt.zero) 52)) = w0 at *
  have lt_v := v.lt
  have lt_m := m.lt
  have hW0 : w.heap.size ≤ w0.heap.size := by simpa using hB.size
  apply wp_region_Q 14 [0, 1, 3, 7, 15, 31, 63, 127, 255, 511, 1023, 2047, 4095, 8191] [] [_, _, _, _, _, _, _, _, _, _, _, _, _, _] (fun p L w' => w0.heap.size ≤ w'.heap.size ∧ Below w.heap.size w w' ∧ blk w' w.heap.size (rbc x) 46 ∧ blk w' (w.heap.size + 1) (rbc BSt.zero) 52) _ [(0, 10), (1, 11), (2, 12), (3, 13), (4, 14), (5, 15), (6, 16), (7, 17), (8, 18), (9, 9), (10, 19), (11, 20), (12, 5), (13, 6)] [0, 1, 2, 3, 4, 5, 6, 7, 8, 9, 10, 11, 12, 13]
  case hn => rfl
  case hB => kernel_rfl
  case hds => kernel_rfl
  case hA => (intro p; simp only [putsD, Act.put, sIT, sCZ, sCS, List.getD_cons_zero, List.getD_cons_succ]; exact rfl)
  case h0 => exact fun p => ⟨Nat.le_refl _, hB, v, m⟩
  case hmore => exact fun p L w1 w2 ⟨hsz, hB, v, m⟩ hm => ⟨Nat.le_trans hsz hm.size, hB.trans (hm.mono (Nat.le_trans hW0 hsz)), v.below hm v.lt, m.below hm m.lt⟩
  case hs =>
    intro more
    refine stepV 0 rfl rfl (fun _ _ _ h => h) ?_ ?_
    · intros; go_simp; exact ⟨rfl, rfl⟩
    refine stepV 1 rfl rfl (fun _ _ _ h => h) ?_ ?_
    · rintro p L w1 ⟨hsz, hB, v, m⟩ hk
      exact valR_part _ _ rfl _ 0 rfl _ _ v (qfn x.Q) (rb_q x) _ Tryz.underlying31 rfl (by rw [qfn_size]; kernel_rfl) rfl
    refine stepV 2 rfl rfl (fun _ _ _ h => h) ?_ ?_
    · intros; go_simp; exact ⟨rfl, rfl⟩
    refine stepV 3 rfl rfl (fun _ _ _ h => h) ?_ ?_
    · rintro p L w1 ⟨hsz, hB, v, m⟩ hk
      exact valR_part _ _ rfl _ 4 rfl _ _ v (vfn x.T) (rb_t x) _ Tryz.underlying27 rfl (by rw [vfn_size]; kernel_rfl) rfl
    refine stepV 4 rfl rfl (fun _ _ _ h => h) ?_ ?_
    · intros; go_simp; exact ⟨rfl, rfl⟩
    refine stepV 5 rfl rfl (fun _ _ _ h => h) ?_ ?_
    · rintro p L w1 ⟨hsz, hB, v, m⟩ hk
      exact valR_part _ _ rfl _ 7 rfl _ _ v (qfn x.h) (rb_h x) _ Tryz.underlying28 rfl (by rw [qfn_size]; kernel_rfl) rfl
    refine stepV 6 rfl rfl (fun _ _ _ h => h) ?_ ?_
    · intros; go_simp; exact ⟨rfl, rfl⟩
    refine stepV 7 rfl rfl (fun _ _ _ h => h) ?_ ?_
    · rintro p L w1 ⟨hsz, hB, v, m⟩ hk
      have hc : w1.cell? ⟨w.heap.size, 11, none⟩ = some (.int .i64 x.f) := v.cellIs rfl
      go_simp
      exact ⟨rfl, rfl⟩
    refine stepD 8 rfl (fun p => rfl) (fun _ _ _ h => h) more ?_ ?_
    · rintro p L w1 ⟨hsz, hB, v, m⟩ hk
      go_simp
      refine (NB.out _).mono ?_
      rintro e w2 ⟨rfl, h2⟩
      first | exact ⟨rfl, h2⟩ | (subst h2; exact ⟨rfl, Below.refl _ _⟩)
    refine stepV 9 rfl rfl (fun _ _ _ h => h) ?_ ?_
    · intros; go_simp; exact ⟨rfl, rfl⟩
    refine stepV 10 rfl rfl (fun _ _ _ h => h) ?_ ?_
    · intros; go_simp; exact ⟨rfl, rfl⟩
    refine stepV 11 rfl rfl (fun _ _ _ h => h) ?_ ?_
    · intros; go_simp; exact ⟨rfl, rfl⟩
    refine stepV 12 rfl rfl (fun _ _ _ h => h) ?_ ?_
    · intros; go_simp; exact ⟨rfl, rfl⟩
    refine stepV 13 rfl rfl (fun _ _ _ h => h) ?_ ?_
    · intros; go_simp; exact ⟨rfl, rfl⟩
    exact AllI.nil
  case hV0 => exact fun p q => AllI.nil
  case he =>
  clear hB v m
  rintro p w0r ⟨hsz, hB, v, m⟩
  clear lt_v lt_m hsz hW0
  go_upto_region 2 with (fail)
  have lt_v := v.lt
  have lt_m := m.lt
  have hW0 : w.heap.size ≤ w0r.heap.size := by simpa using hB.size
  apply wp_region_Q 15 [0, 1, 3, 7, 15, 31, 63, 127, 255, 511, 1023, 2047, 4095, 8191, 16383] [12] [_, _, _, _, _, _, _, _, _, _, _, _, (fun p => .pointer (some ⟨p 12, 0, none⟩)), (fun _ => undef), _] (fun p L w' => w0r.heap.size ≤ w'.heap.size ∧ Below w.heap.size w w' ∧ blk w' w.heap.size (rbc x) 46 ∧ blk w' (w.heap.size + 1) (rbc BSt.zero) 52 ∧ (L 12 = true → w0r.heap.size ≤ p 12 ∧ blk w' (p 12) (bif L 13 then (rbc BSt.zero) else (rbc BSt.zero)) 52)) _ [(0, 22), (1, 23), (2, 24), (3, 25), (4, 26), (5, 27), (6, 28), (7, 29), (8, 30), (9, 21), (10, 31), (11, 32), (12, 7), (14, 8)] [0, 1, 2, 3, 4, 5, 6, 7, 8, 9, 10, 11, 12, 13, 14]
  case hn => rfl
  case hB => kernel_rfl
  case hds => kernel_rfl
  case hA => (intro p; simp only [putsD, Act.put, sIT, sCZ, sCS, List.getD_cons_zero, List.getD_cons_succ]; exact rfl)
  case h0 => exact fun p => ⟨Nat.le_refl _, hB, v, m, fun h => absurd h (by decide)⟩
  case hmore => exact fun p L w1 w2 ⟨hsz, hB, v, m, h_r⟩ hm => ⟨Nat.le_trans hsz hm.size, hB.trans (hm.mono (Nat.le_trans hW0 hsz)), v.below hm v.lt, m.below hm m.lt, fun hl => ⟨(h_r hl).1, (h_r hl).2.below hm (h_r hl).2.lt⟩⟩
  case hs =>
    intro more
    refine stepV 0 rfl rfl (fun _ _ _ h => h) ?_ ?_
    · intros; go_simp; exact ⟨rfl, rfl⟩
    refine stepV 1 rfl rfl (fun _ _ _ h => h) ?_ ?_
    · rintro p L w1 ⟨hsz, hB, v, m, h_r⟩ hk
      have L13 : L 13 = false := hk.2.2 13 rfl
      exact valR_part _ _ rfl _ 0 rfl _ _ v (qfn x.Q) (rb_q x) _ Tryz.underlying31 rfl (by rw [qfn_size]; kernel_rfl) rfl
    refine stepV 2 rfl rfl (fun _ _ _ h => h) ?_ ?_
    · intros; go_simp; exact ⟨rfl, rfl⟩
    refine stepV 3 rfl rfl (fun _ _ _ h => h) ?_ ?_
    · rintro p L w1 ⟨hsz, hB, v, m, h_r⟩ hk
      have L13 : L 13 = false := hk.2.2 13 rfl
      exact valR_part _ _ rfl _ 4 rfl _ _ v (vfn x.T) (rb_t x) _ Tryz.underlying27 rfl (by rw [vfn_size]; kernel_rfl) rfl
    refine stepV 4 rfl rfl (fun _ _ _ h => h) ?_ ?_
    · intros; go_simp; exact ⟨rfl, rfl⟩
    refine stepV 5 rfl rfl (fun _ _ _ h => h) ?_ ?_
    · rintro p L w1 ⟨hsz, hB, v, m, h_r⟩ hk
      have L13 : L 13 = false := hk.2.2 13 rfl
      exact valR_part _ _ rfl _ 7 rfl _ _ v (qfn x.h) (rb_h x) _ Tryz.underlying28 rfl (by rw [qfn_size]; kernel_rfl) rfl
    refine stepV 6 rfl rfl (fun _ _ _ h => h) ?_ ?_
    · intros; go_simp; exact ⟨rfl, rfl⟩
    refine stepV 7 rfl rfl (fun _ _ _ h => h) ?_ ?_
    · rintro p L w1 ⟨hsz, hB, v, m, h_r⟩ hk
      have L13 : L 13 = false := hk.2.2 13 rfl
      have hc : w1.cell? ⟨w.heap.size, 11, none⟩ = some (.int .i64 x.f) := v.cellIs rfl
      go_simp
      exact ⟨rfl, rfl⟩
    refine stepD 8 rfl (fun p => rfl) (fun _ _ _ h => h) more ?_ ?_
    · rintro p L w1 ⟨hsz, hB, v, m, h_r⟩ hk
      go_simp
      refine (NR.out _).mono ?_
      rintro e w2 ⟨rfl, h2⟩
      first | exact ⟨rfl, h2⟩ | (subst h2; exact ⟨rfl, Below.refl _ _⟩)
    refine stepV 9 rfl rfl (fun _ _ _ h => h) ?_ ?_
    · intros; go_simp; exact ⟨rfl, rfl⟩
    refine stepV 10 rfl rfl (fun _ _ _ h => h) ?_ ?_
    · intros; go_simp; exact ⟨rfl, rfl⟩
    refine stepV 11 rfl rfl (fun _ _ _ h => h) ?_ ?_
    · intros; go_simp; exact ⟨rfl, rfl⟩
    refine AllI.cons ?_ ?_
    · refine stepI_alloc 12 rfl (fun p => rfl) rfl (rbc BSt.zero) 52 (fun p => rfl) ?_ ?_
      · intro p w1
        go_simp
        first | rfl | rw [rbc_zero]
      rintro p L w1 ⟨hsz, hB, v, m, h_r⟩ hk
      have L13 : L 13 = false := hk.2.2 13 rfl
      refine ⟨Nat.le_trans hsz (by simp), hB.alloc (Nat.le_trans (by first | exact hW0 | (have := hB.size; simp at this ⊢; omega)) hsz) _, v.alloc _, m.alloc _, fun _ => ⟨hsz, ?_⟩⟩
      rw [show upL L 12 13 = false from L13]
      exact blk.new _ _ _
    refine AllI.cons ?_ ?_
    · refine stepI_store 13 rfl (fun p => rfl) (fun p => rfl) _ _ _ rfl (fun p => p 12) 0 (fun p => rfl) (fun p => (rbc BSt.zero)) (fun p => rfl) (fun p => (rbc BSt.zero)) (fun p => (rbc BSt.zero)) 52 (fun p => over_rr _ _) (fun p => by first | (rw [rbc_size, rbc_size]; decide) | simp [rbc_size, rbc_size]) (fun p => by rw [rbc_size]; kernel_rfl) (fun p => rbc_one _) ?_ ?_
      · rintro p L w1 ⟨hsz, hB, v, m, h_r⟩ hk
        have L13 : L 13 = false := hk.1
        have hh := (h_r (hk.2.1 12 rfl)).2
        rw [L13] at hh
        try simp only [cond_true, cond_false] at hh
        exact hh
      · rintro p L w1 ⟨hsz, hB, v, m, h_r⟩ hk
        have L13 : L 13 = false := hk.1
        skip
        have hp := h_r (hk.2.1 12 rfl)
        refine ⟨(by simpa using hsz), Below.setRow hB (by first | exact Nat.le_trans hW0 hp.1 | exact ge_r | omega | (have := hB.size; simp at this ⊢; omega)) _, v.rowOther (by first | exact Nat.ne_of_lt (Nat.lt_of_lt_of_le lt_v hp.1) | omega) _, m.rowOther (by first | exact Nat.ne_of_lt (Nat.lt_of_lt_of_le lt_m hp.1) | omega) _, fun _ => ⟨hp.1, ?_⟩⟩
        rw [show upL L 13 13 = true from rfl]
        exact hp.2.row _
    refine stepV 14 rfl rfl (fun _ _ _ h => h) ?_ ?_
    · intros; go_simp; exact ⟨rfl, rfl⟩
    exact AllI.nil
  case hV0 =>
    intro p q
    refine AllI.cons ?_ ?_
    · skip
      iterate 15 (refine AllI.cons (by first | exact .inl rfl | (refine .inr ?_; simp only [List.getD_cons_zero, List.getD_cons_succ]; done) | exact .inr rfl) ?_)
      exact AllI.nil
    exact AllI.nil
  case he =>
  clear hB v m
  rintro p w0rr ⟨hsz, hB, v, m, h_r⟩
  obtain ⟨le_r, r⟩ := h_r rfl
  clear h_r
  replace r : blk w0rr (p 12) (rbc BSt.zero) 52 := r
  have ne_v_r : w.heap.size ≠ p 12 := Nat.ne_of_lt (Nat.lt_of_lt_of_le lt_v le_r)
  have ne_m_r : (w.heap.size + 1) ≠ p 12 := Nat.ne_of_lt (Nat.lt_of_lt_of_le lt_m le_r)
  have ge_r : w.heap.size ≤ p 12 := Nat.le_trans hW0 le_r
  generalize p 12 = r_b at *
  clear lt_v lt_m hsz hW0
  go_upto_region 3 with (fail)
  have lt_v := v.lt
  have lt_m := m.lt
  have lt_r := r.lt
  have hW0 : w.heap.size ≤ w0rr.heap.size := by simpa using hB.size
  apply wp_region_I 15 [0, 0, 0, 0, 12, 28, 60, 124, 60, 316, 1020, 2044, 61, 4159, 16383] [] [_, _, _, _, _, _, _, _, _, _, _, _, _, (fun _ => undef), _] (fun p L w' => w0rr.heap.size ≤ w'.heap.size ∧ Below w.heap.size w w' ∧ blk w' w.heap.size (rbc x) 46 ∧ blk w' (w.heap.size + 1) (bif L 13 then (rbc BSt.zero) else (rbc BSt.zero)) 52 ∧ blk w' r_b (rbc BSt.zero) 52) _ [(0, 33), (1, 34), (2, 35), (3, 36), (4, 37), (5, 38), (6, 39), (7, 40), (8, 41), (9, 42), (10, 43), (11, 44), (12, 2), (14, 4)] [0, 1, 2, 3, 4, 5, 6, 7, 8, 9, 10, 11, 12, 13, 14]
  case hn => rfl
  case hm => kernel_rfl
  case hB => kernel_rfl
  case hds => kernel_rfl
  case hA => (intro p; simp only [putsD, Act.put, sIT, sCZ, sCS, List.getD_cons_zero, List.getD_cons_succ]; exact rfl)
  case h0 => exact fun p => ⟨Nat.le_refl _, hB.drew, v.drew, m.drew, r.drew⟩
  case hmore => exact fun p L w1 w2 ⟨hsz, hB, v, m, r⟩ hm => ⟨Nat.le_trans hsz hm.size, hB.trans (hm.mono (Nat.le_trans hW0 hsz)), v.below hm v.lt, m.below hm m.lt, r.below hm r.lt⟩
  case hs =>
    intro more
    refine stepV 0 rfl rfl (fun _ _ _ h => h) ?_ ?_
    · intros; go_simp; exact ⟨rfl, rfl⟩
    refine stepV 1 rfl rfl (fun _ _ _ h => h) ?_ ?_
    · rintro p L w1 ⟨hsz, hB, v, m, r⟩ hk
      have L13 : L 13 = false := hk.2.2 13 rfl
      first | exact valR_row _ _ rfl _ rfl _ _ r _ Tryz.underlying52 rfl (by first | kernel_rfl | (rw [rbc_size]; kernel_rfl)) rfl | (have hc := r.cellIs (show _[0]? = some _ from rfl); go_simp; exact ⟨rfl, rfl⟩)
    refine stepV 2 rfl rfl (fun _ _ _ h => h) ?_ ?_
    · intros; go_simp; exact ⟨rfl, rfl⟩
    refine stepV 3 rfl rfl (fun _ _ _ h => h) ?_ ?_
    · intros; go_simp; exact ⟨rfl, rfl⟩
    refine stepV 4 rfl rfl (fun _ _ _ h => h) ?_ ?_
    · intros; go_simp; exact ⟨rfl, rfl⟩
    refine stepV 5 rfl rfl (fun _ _ _ h => h) ?_ ?_
    · intros; go_simp; exact ⟨rfl, rfl⟩
    refine stepVg 6 rfl (fun p => (by first | rfl | (simp [Region.wanted, yielded]; done))) (fun _ _ _ h => h) ?_ ?_
    · intros; go_simp; exact ⟨rfl, rfl⟩
    refine stepVg 7 rfl (fun p => (by first | rfl | (simp [Region.wanted, yielded]; done))) (fun _ _ _ h => h) ?_ ?_
    · intros; go_simp; exact ⟨rfl, rfl⟩
    refine stepVg 8 rfl (fun p => (by first | rfl | (simp [Region.wanted, yielded]; done))) (fun _ _ _ h => h) ?_ ?_
    · intros; go_simp; exact ⟨rfl, rfl⟩
    refine stepVg 9 rfl (fun p => (by first | rfl | (simp [Region.wanted, yielded]; done))) (fun _ _ _ h => h) ?_ ?_
    · intros; go_simp; exact ⟨rfl, rfl⟩
    refine stepVg 10 rfl (fun p => (by first | rfl | (simp [Region.wanted, yielded]; done))) (fun _ _ _ h => h) ?_ ?_
    · intros; go_simp; exact ⟨rfl, rfl⟩
    refine stepV 11 rfl rfl (fun _ _ _ h => h) ?_ ?_
    · intros; go_simp; exact ⟨rfl, rfl⟩
    refine stepV 12 rfl rfl (fun _ _ _ h => h) ?_ ?_
    · intros; go_simp; exact ⟨rfl, rfl⟩
    refine AllI.cons ?_ ?_
    · refine stepI_store 13 rfl (fun p => rfl) (fun p => rfl) _ _ _ rfl (fun _ => (w.heap.size + 1)) 0 (fun p => rfl) (fun p => (rbc BSt.zero)) (fun p => rfl) (fun p => (rbc BSt.zero)) (fun p => (rbc BSt.zero)) 52 (fun p => over_rr _ _) (fun p => by first | (rw [rbc_size, rbc_size]; decide) | simp [rbc_size, rbc_size]) (fun p => by rw [rbc_size]; kernel_rfl) (fun p => rbc_one _) ?_ ?_
      · rintro p L w1 ⟨hsz, hB, v, m, r⟩ hk
        have L13 : L 13 = false := hk.1
        rw [L13] at m
        try simp only [cond_true, cond_false] at m
        exact m
      · rintro p L w1 ⟨hsz, hB, v, m, r⟩ hk
        have L13 : L 13 = false := hk.1
        skip
        refine ⟨(by simpa using hsz), Below.setRow hB (by first | exact Nat.le_trans hW0 hp.1 | exact ge_m | omega | (have := hB.size; simp at this ⊢; omega)) _, v.rowOther (by first | exact ne_v_m | exact Ne.symm ne_m_v | omega) _, ?_, r.rowOther (Ne.symm ne_m_r) _⟩
        rw [show upL L 13 13 = true from rfl]
        exact m.row _
    refine stepV 14 rfl rfl (fun _ _ _ h => h) ?_ ?_
    · intros; go_simp; exact ⟨rfl, rfl⟩
    exact AllI.nil
  case hV0 => exact fun p q => AllI.nil
  case he =>
  clear hB v m r
  rintro p w0rrr ⟨hsz, hB, v, m, r⟩
  replace m : blk w0rrr (w.heap.size + 1) (rbc BSt.zero) 52 := m
  clear lt_v lt_m lt_r hsz hW0
  go_wp2_with (fail)
  refine bodyPost_ret (results_tct rfl _ _ _ _ _ _ _ rfl m Tryz.underlying52 rfl (by first | kernel_rfl | (rw [rbc_size]; kernel_rfl))) rfl ?_
  exact ⟨rfl, hB⟩
set_option maxRecDepth 100000 in
set_option maxHeartbeats 6000000 in
theorem made_yes (x : BSt) (w : World) (hQ : ∀ i, i < 4 → I64 (x.Q i)) (hk : newOk x = true) : Calls Tryz.prog 16 #[.agg (rbc x)] w fun e w' => ∃ b, e = .returned (.tuple #[.pointer (some ⟨b, 0, none⟩), .agg (rbc x), .bool true]) ∧ bod w.heap.size b w' x ∧ Below w.heap.size w w' := by
  have NB := Lib.hid (fun w => bnew_yes x w hQ hk)
  have NR := Lib.hid (fun w => rbnew_yes x w hQ hk)
  clear hQ hk
  go_enter Tryz.func16, Tryz.ntmps16
  go_upto_region 1 with (fail)
  simp only [rbc_zero]
  have v : blk ((w.alloc (.cells (rbc x) 46)).alloc (.cells (rbc BSt.zero) 52)) w.heap.size (rbc x) 46 := (blk.new _ _ _).alloc _
  have m : blk ((w.alloc (.cells (rbc x) 46)).alloc (.cells (rbc BSt.zero) 52)) (w.heap.size + 1) (rbc BSt.zero) 52 := blk.new' (by simp)
  have hB : Below w.heap.size w ((w.alloc (.cells (rbc x) 46)).alloc (.cells (rbc BSt.zero) 52)) := by go_grown
  generalize ((w.alloc (.cells (rbc x) 46)).alloc (.cells (rbc BSt.zero) 52)) = w0 at *
  have cf : w0.cell? ⟨w.heap.size, 11, none⟩ = some (.int .i64 x.f) := v.cellIs rfl
  have out_v := v.lt
  have out_m := m.lt
  have hlo : w.heap.size ≤ w0.heap.size := hB.size
  go_upto_region 2 with (first | (refine wpList_load_part ?hw _ _ rfl _ 0 rfl _ _ v (qfn x.Q) (rb_q x) _ Tryz.underlying31 rfl ?hi ?_; (case hw => (first | rfl | (simp [Region.wanted, yielded]; done))); (case hi => (rw [qfn_size]; kernel_rfl))) | (refine wpList_load_part ?hw _ _ rfl _ 4 rfl _ _ v (vfn x.T) (rb_t x) _ Tryz.underlying27 rfl ?hi ?_; (case hw => (first | rfl | (simp [Region.wanted, yielded]; done))); (case hi => (rw [vfn_size]; kernel_rfl))) | (refine wpList_load_part ?hw _ _ rfl _ 7 rfl _ _ v (qfn x.h) (rb_h x) _ Tryz.underlying28 rfl ?hi ?_; (case hw => (first | rfl | (simp [Region.wanted, yielded]; done))); (case hi => (rw [qfn_size]; kernel_rfl))) | (go_at_call 40; with_reducible refine (NB.out _).mono ?_; rintro e w1 ⟨ob, rfl, o, hb⟩; replace hB := hB.trans (hb.mono hB.size); replace v := v.below hb v.lt; replace m := m.below hb m.lt; clear hb))
  clear NB cf
  have lt_v := v.lt
  have lt_m := m.lt
  have lt_o := o.lt
  have hW0 : w.heap.size ≤ w1.heap.size := by simpa using hB.size
  apply wp_region_Q 15 [0, 1, 3, 7, 15, 31, 63, 127, 255, 511, 1023, 2047, 4095, 8191, 16383] [12] [_, _, _, _, _, _, _, _, _, _, _, _, (fun p => .pointer (some ⟨p 12, 0, none⟩)), (fun _ => undef), _] (fun p L w' => w1.heap.size ≤ w'.heap.size ∧ Below w.heap.size w w' ∧ blk w' w.heap.size (rbc x) 46 ∧ blk w' (w.heap.size + 1) (rbc BSt.zero) 52 ∧ bod w0.heap.size ob w' (x) ∧ (L 12 = true → w1.heap.size ≤ p 12 ∧ blk w' (p 12) (bif L 13 then (rbc x) else (rbc BSt.zero)) 52)) _ [(0, 22), (1, 23), (2, 24), (3, 25), (4, 26), (5, 27), (6, 28), (7, 29), (8, 30), (9, 21), (10, 31), (11, 32), (12, 7), (14, 8)] [0, 1, 2, 3, 4, 5, 6, 7, 8, 9, 10, 11, 12, 13, 14]
  case hn => rfl
  case hB => kernel_rfl
  case hds => kernel_rfl
  case hA => (intro p; simp only [putsD, Act.put, sIT, sCZ, sCS, List.getD_cons_zero, List.getD_cons_succ]; exact rfl)
  case h0 => exact fun p => ⟨Nat.le_refl _, hB, v, m, o, fun h => absurd h (by decide)⟩
  case hmore => exact fun p L w1 w2 ⟨hsz, hB, v, m, o, h_r⟩ hm => ⟨Nat.le_trans hsz hm.size, hB.trans (hm.mono (Nat.le_trans hW0 hsz)), v.below hm v.lt, m.below hm m.lt, o.below hm o.lt, fun hl => ⟨(h_r hl).1, (h_r hl).2.below hm (h_r hl).2.lt⟩⟩
  case hs =>
    intro more
    refine stepV 0 rfl rfl (fun _ _ _ h => h) ?_ ?_
    · intros; go_simp; exact ⟨rfl, rfl⟩
    refine stepV 1 rfl rfl (fun _ _ _ h => h) ?_ ?_
    · rintro p L w1 ⟨hsz, hB, v, m, o, h_r⟩ hk
      have L13 : L 13 = false := hk.2.2 13 rfl
      exact valR_part _ _ rfl _ 0 rfl _ _ v (qfn x.Q) (rb_q x) _ Tryz.underlying31 rfl (by rw [qfn_size]; kernel_rfl) rfl
    refine stepV 2 rfl rfl (fun _ _ _ h => h) ?_ ?_
    · intros; go_simp; exact ⟨rfl, rfl⟩
    refine stepV 3 rfl rfl (fun _ _ _ h => h) ?_ ?_
    · rintro p L w1 ⟨hsz, hB, v, m, o, h_r⟩ hk
      have L13 : L 13 = false := hk.2.2 13 rfl
      exact valR_part _ _ rfl _ 4 rfl _ _ v (vfn x.T) (rb_t x) _ Tryz.underlying27 rfl (by rw [vfn_size]; kernel_rfl) rfl
    refine stepV 4 rfl rfl (fun _ _ _ h => h) ?_ ?_
    · intros; go_simp; exact ⟨rfl, rfl⟩
    refine stepV 5 rfl rfl (fun _ _ _ h => h) ?_ ?_
    · rintro p L w1 ⟨hsz, hB, v, m, o, h_r⟩ hk
      have L13 : L 13 = false := hk.2.2 13 rfl
      exact valR_part _ _ rfl _ 7 rfl _ _ v (qfn x.h) (rb_h x) _ Tryz.underlying28 rfl (by rw [qfn_size]; kernel_rfl) rfl
    refine stepV 6 rfl rfl (fun _ _ _ h => h) ?_ ?_
    · intros; go_simp; exact ⟨rfl, rfl⟩
    refine stepV 7 rfl rfl (fun _ _ _ h => h) ?_ ?_
    · rintro p L w1 ⟨hsz, hB, v, m, o, h_r⟩ hk
      have L13 : L 13 = false := hk.2.2 13 rfl
      have hc : w1.cell? ⟨w.heap.size, 11, none⟩ = some (.int .i64 x.f) := v.cellIs rfl
      go_simp
      exact ⟨rfl, rfl⟩
    refine stepD 8 rfl (fun p => rfl) (fun _ _ _ h => h) more ?_ ?_
    · rintro p L w1 ⟨hsz, hB, v, m, o, h_r⟩ hk
      go_simp
      refine (NR.out _).mono ?_
      rintro e w2 ⟨rfl, h2⟩
      first | exact ⟨rfl, h2⟩ | (subst h2; exact ⟨rfl, Below.refl _ _⟩)
    refine stepV 9 rfl rfl (fun _ _ _ h => h) ?_ ?_
    · intros; go_simp; exact ⟨rfl, rfl⟩
    refine stepV 10 rfl rfl (fun _ _ _ h => h) ?_ ?_
    · intros; go_simp; exact ⟨rfl, rfl⟩
    refine stepV 11 rfl rfl (fun _ _ _ h => h) ?_ ?_
    · intros; go_simp; exact ⟨rfl, rfl⟩
    refine AllI.cons ?_ ?_
    · refine stepI_alloc 12 rfl (fun p => rfl) rfl (rbc BSt.zero) 52 (fun p => rfl) ?_ ?_
      · intro p w1
        go_simp
        first | rfl | rw [rbc_zero]
      rintro p L w1 ⟨hsz, hB, v, m, o, h_r⟩ hk
      have L13 : L 13 = false := hk.2.2 13 rfl
      refine ⟨Nat.le_trans hsz (by simp), hB.alloc (Nat.le_trans (by first | exact hW0 | (have := hB.size; simp at this ⊢; omega)) hsz) _, v.alloc _, m.alloc _, o.alloc _, fun _ => ⟨hsz, ?_⟩⟩
      rw [show upL L 12 13 = false from L13]
      exact blk.new _ _ _
    refine AllI.cons ?_ ?_
    · refine stepI_store 13 rfl (fun p => rfl) (fun p => rfl) _ _ _ rfl (fun p => p 12) 0 (fun p => rfl) (fun p => (rbc x)) (fun p => rfl) (fun p => (rbc BSt.zero)) (fun p => (rbc x)) 52 (fun p => over_rr _ _) (fun p => by first | (rw [rbc_size, rbc_size]; decide) | simp [rbc_size, rbc_size]) (fun p => by rw [rbc_size]; kernel_rfl) (fun p => rbc_one _) ?_ ?_
      · rintro p L w1 ⟨hsz, hB, v, m, o, h_r⟩ hk
        have L13 : L 13 = false := hk.1
        have hh := (h_r (hk.2.1 12 rfl)).2
        rw [L13] at hh
        try simp only [cond_true, cond_false] at hh
        exact hh
      · rintro p L w1 ⟨hsz, hB, v, m, o, h_r⟩ hk
        have L13 : L 13 = false := hk.1
        skip
        have hp := h_r (hk.2.1 12 rfl)
        refine ⟨(by simpa using hsz), Below.setRow hB (by first | exact Nat.le_trans hW0 hp.1 | exact ge_r | omega | (have := hB.size; simp at this ⊢; omega)) _, v.rowOther (by first | exact Nat.ne_of_lt (Nat.lt_of_lt_of_le lt_v hp.1) | omega) _, m.rowOther (by first | exact Nat.ne_of_lt (Nat.lt_of_lt_of_le lt_m hp.1) | omega) _, o.rowOther (.inr (Nat.lt_of_lt_of_le lt_o hp.1)) _, fun _ => ⟨hp.1, ?_⟩⟩
        rw [show upL L 13 13 = true from rfl]
        exact hp.2.row _
    refine stepV 14 rfl rfl (fun _ _ _ h => h) ?_ ?_
    · intros; go_simp; exact ⟨rfl, rfl⟩
    exact AllI.nil
  case hV0 =>
    intro p q
    refine AllI.cons ?_ ?_
    · skip
      iterate 15 (refine AllI.cons (by first | exact .inl rfl | (refine .inr ?_; simp only [List.getD_cons_zero, List.getD_cons_succ]; done) | exact .inr rfl) ?_)
      exact AllI.nil
    exact AllI.nil
  case he =>
  clear hB v m o
  rintro p w1r ⟨hsz, hB, v, m, o, h_r⟩
  obtain ⟨le_r, r⟩ := h_r rfl
  clear h_r
  replace r : blk w1r (p 12) (rbc x) 52 := r
  have ne_v_r : w.heap.size ≠ p 12 := Nat.ne_of_lt (Nat.lt_of_lt_of_le lt_v le_r)
  have ne_m_r : (w.heap.size + 1) ≠ p 12 := Nat.ne_of_lt (Nat.lt_of_lt_of_le lt_m le_r)
  have ne_o_r : ob ≠ p 12 := Nat.ne_of_lt (Nat.lt_of_lt_of_le lt_o le_r)
  have ge_r : w.heap.size ≤ p 12 := Nat.le_trans hW0 le_r
  have out_r : ob < p 12 := Nat.lt_of_lt_of_le lt_o le_r
  generalize p 12 = r_b at *
  clear lt_v lt_m lt_o hsz hW0
  go_upto_region 3 with (fail)
  have lt_v := v.lt
  have lt_m := m.lt
  have lt_o := o.lt
  have lt_r := r.lt
  have hW0 : w.heap.size ≤ w1r.heap.size := by simpa using hB.size
  apply wp_region_I 15 [0, 0, 0, 0, 12, 28, 60, 124, 60, 316, 1020, 2044, 61, 4159, 16383] [] [_, _, _, _, _, _, _, _, _, _, _, _, _, (fun _ => undef), _] (fun p L w' => w1r.heap.size ≤ w'.heap.size ∧ Below w.heap.size w w' ∧ blk w' w.heap.size (rbc x) 46 ∧ blk w' (w.heap.size + 1) (bif L 13 then (rbc x) else (rbc BSt.zero)) 52 ∧ bod w0.heap.size ob w' (x) ∧ blk w' r_b (rbc x) 52) _ [(0, 33), (1, 34), (2, 35), (3, 36), (4, 37), (5, 38), (6, 39), (7, 40), (8, 41), (9, 42), (10, 43), (11, 44), (12, 2), (14, 4)] [0, 1, 2, 3, 4, 5, 6, 7, 8, 9, 10, 11, 12, 13, 14]
  case hn => rfl
  case hm => kernel_rfl
  case hB => kernel_rfl
  case hds => kernel_rfl
  case hA => (intro p; simp only [putsD, Act.put, sIT, sCZ, sCS, List.getD_cons_zero, List.getD_cons_succ]; exact rfl)
  case h0 => exact fun p => ⟨Nat.le_refl _, hB.drew, v.drew, m.drew, o.drew, r.drew⟩
  case hmore => exact fun p L w1 w2 ⟨hsz, hB, v, m, o, r⟩ hm => ⟨Nat.le_trans hsz hm.size, hB.trans (hm.mono (Nat.le_trans hW0 hsz)), v.below hm v.lt, m.below hm m.lt, o.below hm o.lt, r.below hm r.lt⟩
  case hs =>
    intro more
    refine stepV 0 rfl rfl (fun _ _ _ h => h) ?_ ?_
    · intros; go_simp; exact ⟨rfl, rfl⟩
    refine stepV 1 rfl rfl (fun _ _ _ h => h) ?_ ?_
    · rintro p L w1 ⟨hsz, hB, v, m, o, r⟩ hk
      have L13 : L 13 = false := hk.2.2 13 rfl
      first | exact valR_row _ _ rfl _ rfl _ _ r _ Tryz.underlying52 rfl (by first | kernel_rfl | (rw [rbc_size]; kernel_rfl)) rfl | (have hc := r.cellIs (show _[0]? = some _ from rfl); go_simp; exact ⟨rfl, rfl⟩)
    refine stepV 2 rfl rfl (fun _ _ _ h => h) ?_ ?_
    · intros; go_simp; exact ⟨rfl, rfl⟩
    refine stepV 3 rfl rfl (fun _ _ _ h => h) ?_ ?_
    · intros; go_simp; exact ⟨rfl, rfl⟩
    refine stepV 4 rfl rfl (fun _ _ _ h => h) ?_ ?_
    · intros; go_simp; exact ⟨rfl, rfl⟩
    refine stepV 5 rfl rfl (fun _ _ _ h => h) ?_ ?_
    · intros; go_simp; exact ⟨rfl, rfl⟩
    refine stepVg 6 rfl (fun p => (by first | rfl | (simp [Region.wanted, yielded]; done))) (fun _ _ _ h => h) ?_ ?_
    · intros; go_simp; exact ⟨rfl, rfl⟩
    refine stepVg 7 rfl (fun p => (by first | rfl | (simp [Region.wanted, yielded]; done))) (fun _ _ _ h => h) ?_ ?_
    · intros; go_simp; exact ⟨rfl, rfl⟩
    refine stepVg 8 rfl (fun p => (by first | rfl | (simp [Region.wanted, yielded]; done))) (fun _ _ _ h => h) ?_ ?_
    · intros; go_simp; exact ⟨rfl, rfl⟩
    refine stepVg 9 rfl (fun p => (by first | rfl | (simp [Region.wanted, yielded]; done))) (fun _ _ _ h => h) ?_ ?_
    · intros; go_simp; exact ⟨rfl, rfl⟩
    refine stepVg 10 rfl (fun p => (by first | rfl | (simp [Region.wanted, yielded]; done))) (fun _ _ _ h => h) ?_ ?_
    · intros; go_simp; exact ⟨rfl, rfl⟩
    refine stepV 11 rfl rfl (fun _ _ _ h => h) ?_ ?_
    · intros; go_simp; exact ⟨rfl, rfl⟩
    refine stepV 12 rfl rfl (fun _ _ _ h => h) ?_ ?_
    · intros; go_simp; exact ⟨rfl, rfl⟩
    refine AllI.cons ?_ ?_
    · refine stepI_store 13 rfl (fun p => rfl) (fun p => rfl) _ _ _ rfl (fun _ => (w.heap.size + 1)) 0 (fun p => rfl) (fun p => (rbc x)) (fun p => rfl) (fun p => (rbc BSt.zero)) (fun p => (rbc x)) 52 (fun p => over_rr _ _) (fun p => by first | (rw [rbc_size, rbc_size]; decide) | simp [rbc_size, rbc_size]) (fun p => by rw [rbc_size]; kernel_rfl) (fun p => rbc_one _) ?_ ?_
      · rintro p L w1 ⟨hsz, hB, v, m, o, r⟩ hk
        have L13 : L 13 = false := hk.1
        rw [L13] at m
        try simp only [cond_true, cond_false] at m
        exact m
      · rintro p L w1 ⟨hsz, hB, v, m, o, r⟩ hk
        have L13 : L 13 = false := hk.1
        skip
        refine ⟨(by simpa using hsz), Below.setRow hB (by first | exact Nat.le_trans hW0 hp.1 | exact ge_m | omega | (have := hB.size; simp at this ⊢; omega)) _, v.rowOther (by first | exact ne_v_m | exact Ne.symm ne_m_v | omega) _, ?_, o.rowOther (by first | exact .inr out_m | exact .inl out_m | omega) _, r.rowOther (Ne.symm ne_m_r) _⟩
        rw [show upL L 13 13 = true from rfl]
        exact m.row _
    refine stepV 14 rfl rfl (fun _ _ _ h => h) ?_ ?_
    · intros; go_simp; exact ⟨rfl, rfl⟩
    exact AllI.nil
  case hV0 => exact fun p q => AllI.nil
  case he =>
  clear hB v m o r
  rintro p w1rr ⟨hsz, hB, v, m, o, r⟩
  replace m : blk w1rr (w.heap.size + 1) (rbc x) 52 := m
  clear lt_v lt_m lt_o lt_r hsz hW0
  go_wp2_with (fail)
  refine bodyPost_ret (results_tct rfl _ _ _ _ _ _ _ rfl m Tryz.underlying52 rfl (by first | kernel_rfl | (rw [rbc_size]; kernel_rfl))) rfl ?_
  exact ⟨ob, rfl, (let ⟨s, l, u, k, j⟩ := o; ⟨s, Nat.le_trans hlo l, u, k, j⟩), hB⟩
end Go.Proofs.YtjnocbjngojigaaGreat
namespace Go.Proofs.YtjnocbjngojigaaGreat
open Go.RowKit PM Dt
section
variable {P : Program} {Q : Exit → Act → World → Prop} {l : List Oper} {M : List Nat} {vs : List ((Nat → Nat) → Value)} {R : (Nat → Nat) → (Nat → Bool) → World → Prop} {A : (Nat → Nat) → Act} {fr : List Nat} {o : Oper}
theorem stepI_rel (i : Nat) (ho : l[i]? = some o) (hw : ∀ p, Region.wanted o (yielded l.toArray (A p).tmps) = true) (T : (Nat → Nat) → World → World → Prop)
    (h : ∀ p L w1, R p L w1 → KnowI M R i L → DetR P (fun w2 => T p w1 w2) ((vs.getD i vI) p) ((execOp (A p).eval o).run P w1))
    (hR : ∀ p L w1 w2, R p L w1 → KnowI M R i L → T p w1 w2 → R p (upL L i) w2) : StepI P l M vs R A fr i :=
  stepI_gen i ho hw fun p L w1 hr hk => by
    have h1 := h p L w1 hr hk
    generalize (execOp (A p).eval o).run P w1 = r at *
    cases r with
    | ok n w' =>
      cases n <;> simp only [DetR] at h1 <;> simp only [StepR]
      case value u => exact ⟨p i, fun _ => rfl, by rw [upN_self]; exact h1.1, by rw [upN_self]; exact hR _ _ _ _ hr hk h1.2⟩
      case skip => exact ⟨p i, fun _ => rfl, by rw [upN_self]; exact h1.1.symm, by rw [upN_self]; exact hR _ _ _ _ hr hk h1.2⟩
      case enter f args => exact h1.mono fun e w'' ⟨he, hs⟩ => ⟨_, he, p i, fun _ => rfl, by rw [upN_self], by rw [upN_self]; exact hR _ _ _ _ hr hk hs⟩
    | halt x w' => exact h1.elim
end
theorem bod.save {lo hi lo' b : Nat} {w w' : World} {X : BSt} (h : bod lo' b w X) (hs : Save lo hi w w') (ho : b < lo ∨ hi < lo') : bod lo' b w' X := by
  obtain ⟨s, l, u, k, j⟩ := h
  exact ⟨s, l, u, k.save hs (by omega), j.save hs (by omega)⟩
theorem spd_eq (f g : Nat → Int) (w : World) :
    (Op.equalIn 10000 28 (.agg (qfn f)) (.agg (qfn g))).run Tryz.prog w = .ok ((List.range 4).all fun j => f j == g j) w := by
  obtain ⟨i, hi⟩ : ∃ i, Tryz.prog.info? 2 = some i := Option.isSome_iff_exists.1 (by kernel_rfl)
  have hc : Tryz.prog.cellsOf 2 = 1 := by kernel_rfl
  exact run_equalIn_ints (P := Tryz.prog) Tryz.underlying28 hi hc Tryz.underlying2 f g (qfn f) (qfn g) (fun j hj => qfn_get _ hj) (fun j hj => qfn_get _ hj) 9998 w
theorem spd_eq_self (f : Nat → Int) (w : World) : (Op.equalIn 10000 28 (.agg (qfn f)) (.agg (qfn f))).run Tryz.prog w = .ok true w := by
  rw [spd_eq]; congr 1; simp
set_option maxRecDepth 100000 in
set_option maxHeartbeats 8000000 in
theorem same_any (X : BSt) (lo b : Nat) (w : World) (ho : bod lo b w X) (k : BI X) : Calls Tryz.prog 17 #[.pointer (some ⟨b, 0, none⟩), .agg (rbc X)] w fun e w' => e = .returned (.bool true) ∧ Below w.heap.size w w' := by
  have AT := Lib.hid (fun w (h : bod lo b w X) => battitude_any X lo b w h)
  have TO := Lib.hid (fun w (h : bod lo b w X) => btotal_any X lo b w h)
  have SP := Lib.hid (fun w (h : bod lo b w X) => bspeeds_any X lo b w h)
  have FA := Lib.hid (fun w (h : bod lo b w X) => bfailed_any X lo b w h)
  have MO := Lib.hid (fun w (h : bod lo b w X) => bmom_any X lo b w h k.q k.s)
  have RM := Lib.hid (fun w => rbmom_any X w k.q k.s)
  have RA := Lib.hid (fun w (h : bod lo b w X) => brate_any X lo b w h k.q k.s)
  have RR := Lib.hid (fun w => rbrate_any X w k.q k.s)
  have E1 := quat_eq_self X.Q
  have E2 := vec_eq_self X.T
  have E3 := spd_eq_self X.h
  have E4 := vec_eq_self (momF X)
  have E5 := vec_eq_self (mulF 4 (momF X))
  clear k
  go_enter Tryz.func17, Tryz.ntmps17
  go_upto_region 1 with (fail)
  have r : blk (w.alloc (.cells (rbc X) 52)) w.heap.size (rbc X) 52 := blk.new _ _ _
  have hB : Below w.heap.size w (w.alloc (.cells (rbc X) 52)) := by go_grown
  generalize (w.alloc (.cells (rbc X) 52)) = w0 at *
  have o := ho.below hB ho.lt
  have bl := ho.lt
  clear ho
  have out_r : b < w.heap.size := bl
  have lt_r := r.lt
  have lt_o := o.lt
  have hW0 : w.heap.size ≤ w0.heap.size := by simpa using hB.size
  apply wp_region_I 43 [0, 1, 0, 4, 15, 31, 63, 127, 63, 319, 1023, 2047, 4095, 8191, 16383, 8191, 40959, 106495, 262143, 524287, 1048575, 2097151, 4194303, 2097151, 10485759, 27262975, 67108863, 134217727, 268435455, 536870911, 1073741823, 536870911, 4294967295, 8589934591, 17179869183, 34359738367, 68719476735, 137438953471, 68719476735, 549755813887, 1099511627775, 2199023255551, 4398046511103] [] [_, _, _, _, _, _, _, _, _, _, _, _, _, _, _, _, _, _, _, _, _, _, _, _, _, _, _, _, _, _, _, _, _, _, _, _, _, _, _, _, _, _, _] (fun p L w' => w0.heap.size ≤ w'.heap.size ∧ Below w.heap.size w w' ∧ blk w' w.heap.size (rbc X) 52 ∧ bod lo b w' (X)) _ [(0, 5), (1, 6), (2, 7), (3, 8), (4, 9), (5, 10), (6, 11), (7, 12), (8, 13), (9, 14), (10, 15), (11, 16), (12, 17), (13, 18), (14, 19), (15, 20), (16, 21), (17, 22), (18, 23), (19, 24), (20, 25), (21, 26), (22, 27), (23, 28), (24, 29), (25, 30), (26, 31), (27, 32), (28, 33), (29, 34), (30, 35), (31, 36), (32, 37), (33, 38), (34, 39), (35, 40), (36, 41), (37, 42), (38, 43), (39, 44), (40, 45), (41, 46), (42, 4)] [0, 1, 2, 3, 4, 5, 6, 7, 8, 9, 10, 11, 12, 13, 14, 15, 16, 17, 18, 19, 20, 21, 22, 23, 24, 25, 26, 27, 28, 29, 30, 31, 32, 33, 34, 35, 36, 37, 38, 39, 40, 41, 42]
  case hn => rfl
  case hm => kernel_rfl
  case hB => kernel_rfl
  case hds => kernel_rfl
  case hA => (intro p; simp only [putsD, Act.put, sIT, sCZ, sCS, List.getD_cons_zero, List.getD_cons_succ]; exact rfl)
  case h0 => exact fun p => ⟨Nat.le_refl _, hB.drew, r.drew, o.drew⟩
  case hmore => exact fun p L w1 w2 ⟨hsz, hB, r, o⟩ hm => ⟨Nat.le_trans hsz hm.size, hB.trans (hm.mono (Nat.le_trans hW0 hsz)), r.below hm r.lt, o.below hm o.lt⟩
  case hs =>
    intro more
    refine stepV _ rfl rfl (fun _ _ _ h => h) (by intros; go_simp; exact ⟨rfl, rfl⟩) ?_
    refine stepD 1 rfl (fun p => rfl) (fun _ _ _ h => h) more ?_ ?_
    · rintro p L w1 ⟨hsz, hB, r, o⟩ hk
      go_simp
      refine (AT.out _ o).mono ?_
      rintro e w2 ⟨rfl, h2⟩
      first | exact ⟨rfl, h2⟩ | (subst h2; exact ⟨rfl, Below.refl _ _⟩)
    refine stepV _ rfl rfl (fun _ _ _ h => h) (by intros; go_simp; exact ⟨rfl, rfl⟩) ?_
    refine stepV 3 rfl rfl (fun _ _ _ h => h) ?_ ?_
    · rintro p L w1 ⟨hsz, hB, r, o⟩ hk
      exact valR_part _ _ rfl _ 0 rfl _ _ r (qfn X.Q) (rb_q X) _ Tryz.underlying31 rfl (by rw [qfn_size]; kernel_rfl) rfl
    iterate 2 (refine stepV _ rfl rfl (fun _ _ _ h => h) (by intros; go_simp; exact ⟨rfl, rfl⟩) ?_)
    refine stepVg _ rfl (fun p => (by first | rfl | (simp [Region.wanted, yielded]; done))) (fun _ _ _ h => h) (by intros; go_simp; exact ⟨rfl, rfl⟩) ?_
    refine stepD 7 rfl (fun p => (by first | rfl | (simp [Region.wanted, yielded]; done))) (fun _ _ _ h => h) more ?_ ?_
    · rintro p L w1 ⟨hsz, hB, r, o⟩ hk
      go_simp
      refine (TO.out _ o).mono ?_
      rintro e w2 ⟨rfl, h2⟩
      first | exact ⟨rfl, h2⟩ | (subst h2; exact ⟨rfl, Below.refl _ _⟩)
    refine stepVg _ rfl (fun p => (by first | rfl | (simp [Region.wanted, yielded]; done))) (fun _ _ _ h => h) (by intros; go_simp; exact ⟨rfl, rfl⟩) ?_
    refine stepVg 9 rfl (fun p => (by first | rfl | (simp [Region.wanted, yielded]; done))) (fun _ _ _ h => h) ?_ ?_
    · rintro p L w1 ⟨hsz, hB, r, o⟩ hk
      exact valR_part _ _ rfl _ 4 rfl _ _ r (vfn X.T) (rb_t X) _ Tryz.underlying27 rfl (by rw [vfn_size]; kernel_rfl) rfl
    refine stepVg _ rfl (fun p => (by first | rfl | (simp [Region.wanted, yielded]; done))) (fun _ _ _ h => h) (by intros; go_simp; exact ⟨rfl, rfl⟩) ?_
    iterate 2 (refine stepV _ rfl rfl (fun _ _ _ h => h) (by intros; go_simp; exact ⟨rfl, rfl⟩) ?_)
    refine stepVg _ rfl (fun p => (by first | rfl | (simp [Region.wanted, yielded]; done))) (fun _ _ _ h => h) (by intros; go_simp; exact ⟨rfl, rfl⟩) ?_
    refine stepD 14 rfl (fun p => (by first | rfl | (simp [Region.wanted, yielded]; done))) (fun _ _ _ h => h) more ?_ ?_
    · rintro p L w1 ⟨hsz, hB, r, o⟩ hk
      go_simp
      refine (SP.out _ o).mono ?_
      rintro e w2 ⟨rfl, h2⟩
      first | exact ⟨rfl, h2⟩ | (subst h2; exact ⟨rfl, Below.refl _ _⟩)
    iterate 2 (refine stepVg _ rfl (fun p => (by first | rfl | (simp [Region.wanted, yielded]; done))) (fun _ _ _ h => h) (by intros; go_simp; exact ⟨rfl, rfl⟩) ?_)
    refine stepVg 17 rfl (fun p => (by first | rfl | (simp [Region.wanted, yielded]; done))) (fun _ _ _ h => h) ?_ ?_
    · rintro p L w1 ⟨hsz, hB, r, o⟩ hk
      exact valR_part _ _ rfl _ 7 rfl _ _ r (qfn X.h) (rb_h X) _ Tryz.underlying28 rfl (by rw [qfn_size]; kernel_rfl) rfl
    refine stepVg _ rfl (fun p => (by first | rfl | (simp [Region.wanted, yielded]; done))) (fun _ _ _ h => h) (by intros; go_simp; exact ⟨rfl, rfl⟩) ?_
    iterate 2 (refine stepV _ rfl rfl (fun _ _ _ h => h) (by intros; go_simp; exact ⟨rfl, rfl⟩) ?_)
    refine stepVg _ rfl (fun p => (by first | rfl | (simp [Region.wanted, yielded]; done))) (fun _ _ _ h => h) (by intros; go_simp; exact ⟨rfl, rfl⟩) ?_
    refine stepD 22 rfl (fun p => (by first | rfl | (simp [Region.wanted, yielded]; done))) (fun _ _ _ h => h) more ?_ ?_
    · rintro p L w1 ⟨hsz, hB, r, o⟩ hk
      go_simp
      refine (FA.out _ o).mono ?_
      rintro e w2 ⟨rfl, h2⟩
      first | exact ⟨rfl, h2⟩ | (subst h2; exact ⟨rfl, Below.refl _ _⟩)
    iterate 2 (refine stepVg _ rfl (fun p => (by first | rfl | (simp [Region.wanted, yielded]; done))) (fun _ _ _ h => h) (by intros; go_simp; exact ⟨rfl, rfl⟩) ?_)
    refine stepVg 25 rfl (fun p => (by first | rfl | (simp [Region.wanted, yielded]; done))) (fun _ _ _ h => h) ?_ ?_
    · rintro p L w1 ⟨hsz, hB, r, o⟩ hk
      have hc : w1.cell? ⟨w.heap.size, 11, none⟩ = some (.int .i64 X.f) := r.cellIs rfl
      go_simp
      exact ⟨rfl, rfl⟩
    refine stepVg _ rfl (fun p => (by first | rfl | (simp [Region.wanted, yielded]; done))) (fun _ _ _ h => h) (by intros; go_simp; exact ⟨rfl, rfl⟩) ?_
    iterate 2 (refine stepV _ rfl rfl (fun _ _ _ h => h) (by intros; go_simp; exact ⟨rfl, rfl⟩) ?_)
    refine stepVg _ rfl (fun p => (by first | rfl | (simp [Region.wanted, yielded]; done))) (fun _ _ _ h => h) (by intros; go_simp; exact ⟨rfl, rfl⟩) ?_
    refine stepD 30 rfl (fun p => (by first | rfl | (simp [Region.wanted, yielded]; done))) (fun _ _ _ h => h) more ?_ ?_
    · rintro p L w1 ⟨hsz, hB, r, o⟩ hk
      go_simp
      refine (MO.out _ o).mono ?_
      rintro e w2 ⟨rfl, h2⟩
      first | exact ⟨rfl, h2⟩ | (subst h2; exact ⟨rfl, Below.refl _ _⟩)
    refine stepVg 31 rfl (fun p => (by first | rfl | (simp [Region.wanted, yielded]; done))) (fun _ _ _ h => h) ?_ ?_
    · rintro p L w1 ⟨hsz, hB, r, o⟩ hk
      first | exact valR_row _ _ rfl _ rfl _ _ r _ Tryz.underlying52 rfl (by first | kernel_rfl | (rw [rbc_size]; kernel_rfl)) rfl | (have hc := r.cellIs (show _[0]? = some _ from rfl); go_simp; exact ⟨rfl, rfl⟩)
    refine stepD 32 rfl (fun p => (by first | rfl | (simp [Region.wanted, yielded]; done))) (fun _ _ _ h => h) more ?_ ?_
    · rintro p L w1 ⟨hsz, hB, r, o⟩ hk
      go_simp
      refine (RM.out _).mono ?_
      rintro e w2 ⟨rfl, h2⟩
      first | exact ⟨rfl, h2⟩ | (subst h2; exact ⟨rfl, Below.refl _ _⟩)
    refine stepVg _ rfl (fun p => (by first | rfl | (simp [Region.wanted, yielded]; done))) (fun _ _ _ h => h) (by intros; go_simp; exact ⟨rfl, rfl⟩) ?_
    iterate 2 (refine stepV _ rfl rfl (fun _ _ _ h => h) (by intros; go_simp; exact ⟨rfl, rfl⟩) ?_)
    refine stepVg _ rfl (fun p => (by first | rfl | (simp [Region.wanted, yielded]; done))) (fun _ _ _ h => h) (by intros; go_simp; exact ⟨rfl, rfl⟩) ?_
    refine stepD 37 rfl (fun p => (by first | rfl | (simp [Region.wanted, yielded]; done))) (fun _ _ _ h => h) more ?_ ?_
    · rintro p L w1 ⟨hsz, hB, r, o⟩ hk
      go_simp
      refine (RA.out _ o).mono ?_
      rintro e w2 ⟨rfl, h2⟩
      first | exact ⟨rfl, h2⟩ | (subst h2; exact ⟨rfl, Below.refl _ _⟩)
    refine stepVg 38 rfl (fun p => (by first | rfl | (simp [Region.wanted, yielded]; done))) (fun _ _ _ h => h) ?_ ?_
    · rintro p L w1 ⟨hsz, hB, r, o⟩ hk
      first | exact valR_row _ _ rfl _ rfl _ _ r _ Tryz.underlying52 rfl (by first | kernel_rfl | (rw [rbc_size]; kernel_rfl)) rfl | (have hc := r.cellIs (show _[0]? = some _ from rfl); go_simp; exact ⟨rfl, rfl⟩)
    refine stepD 39 rfl (fun p => (by first | rfl | (simp [Region.wanted, yielded]; done))) (fun _ _ _ h => h) more ?_ ?_
    · rintro p L w1 ⟨hsz, hB, r, o⟩ hk
      go_simp
      refine (RR.out _).mono ?_
      rintro e w2 ⟨rfl, h2⟩
      first | exact ⟨rfl, h2⟩ | (subst h2; exact ⟨rfl, Below.refl _ _⟩)
    refine stepVg _ rfl (fun p => (by first | rfl | (simp [Region.wanted, yielded]; done))) (fun _ _ _ h => h) (by intros; go_simp; exact ⟨rfl, rfl⟩) ?_
    iterate 2 (refine stepV _ rfl rfl (fun _ _ _ h => h) (by intros; go_simp; exact ⟨rfl, rfl⟩) ?_)
    exact AllI.nil
  case hV0 => exact fun p q => AllI.nil
  case he =>
  clear hB r o
  rintro p w0r ⟨hsz, hB, r, o⟩
  clear lt_r lt_o hsz hW0
  go_wp2_with (fail)
  go_ret
  exact ⟨rfl, hB⟩
set_option maxRecDepth 100000 in
set_option maxHeartbeats 2000000 in
theorem bpl_no (x : BSt) (a : Option Addr) (n c : Nat) (w : World) (hn : 60 < n) : Calls Tryz.prog 4 #[.agg (rbc x), .slice a n c] w fun e w' => e = .returned (.bool true) ∧ Below w.heap.size w w' := by
  have AW := Lib.hid (fun w => awake24_any w)
  have d1 : decide ((60 : Int) < (n : Int)) = true := decide_eq_true (by omega)
  have d2 : decide (60 < n) = true := decide_eq_true hn
  go_enter Tryz.func4, Tryz.ntmps4
  go_upto_region 1 with (fail)
  have v : blk (w.alloc (.cells (rbc x) 46)) w.heap.size (rbc x) 46 := blk.new _ _ _
  have hB : Below w.heap.size w (w.alloc (.cells (rbc x) 46)) := by go_grown
  generalize (w.alloc (.cells (rbc x) 46)) = w0 at *
  go_wp2_with (first
    | (go_at_call 15; with_reducible refine (AW.out _).mono ?_; rintro e w9 ⟨rfl, hb⟩; replace hB := hB.trans (hb.mono hB.size); replace v := v.below hb v.lt; clear hb))
  go_ret
  exact ⟨rfl, hB⟩
set_option maxRecDepth 100000 in
set_option maxHeartbeats 4000000 in
theorem bpl_in (x : BSt) (a : Option Addr) (n c : Nat) (w : World) (hn : n ≤ 60) (hQ : ∀ i, i < 4 → I64 (x.Q i)) (hk : newOk x = false) : Calls Tryz.prog 4 #[.agg (rbc x), .slice a n c] w fun e w' => e = .returned (.bool true) ∧ Below w.heap.size w w' := by
  have AW := Lib.hid (fun w => awake24_any w)
  have d1 : decide ((60 : Int) < (n : Int)) = false := decide_eq_false (by omega)
  have d2 : decide (60 < n) = false := decide_eq_false (by omega)
  have MA := Lib.hid (fun w => made_no x w hQ hk)
  clear hQ hk
  go_enter Tryz.func4, Tryz.ntmps4
  go_upto_region 1 with (fail)
  have v : blk (w.alloc (.cells (rbc x) 46)) w.heap.size (rbc x) 46 := blk.new _ _ _
  have hB : Below w.heap.size w (w.alloc (.cells (rbc x) 46)) := by go_grown
  generalize (w.alloc (.cells (rbc x) 46)) = w0 at *
  go_upto_region 3 with (fail)
  have lt_v := v.lt
  have hW0 : w.heap.size ≤ w0.heap.size := by simpa using hB.size
  apply wp_region_Q 10 [0, 1, 3, 7, 15, 31, 63, 127, 255, 511] [6] [_, _, _, _, _, _, (fun p => .pointer (some ⟨p 6, 0, none⟩)), _, (fun _ => undef), _] (fun p L w' => w0.heap.size ≤ w'.heap.size ∧ Below w.heap.size w w' ∧ blk w' w.heap.size (rbc x) 46 ∧ (L 6 = true → w0.heap.size ≤ p 6 ∧ blk w' (p 6) (bif L 8 then (rbc BSt.zero) else (rbc BSt.zero)) 52)) _ [(0, 23), (1, 24), (2, 22), (3, 25), (4, 26), (5, 27), (6, 6), (7, 5), (9, 7)] [0, 1, 2, 3, 4, 5, 6, 7, 8, 9]
  case hn => rfl
  case hB => kernel_rfl
  case hds => kernel_rfl
  case hA => (intro p; simp only [putsD, Act.put, sIT, sCZ, sCS, List.getD_cons_zero, List.getD_cons_succ]; exact rfl)
  case h0 => exact fun p => ⟨Nat.le_refl _, hB, v, fun h => absurd h (by decide)⟩
  case hmore => exact fun p L w1 w2 ⟨hsz, hB, v, h_r⟩ hm => ⟨Nat.le_trans hsz hm.size, hB.trans (hm.mono (Nat.le_trans hW0 hsz)), v.below hm v.lt, fun hl => ⟨(h_r hl).1, (h_r hl).2.below hm (h_r hl).2.lt⟩⟩
  case hs =>
    intro more
    refine stepV 0 rfl rfl (fun _ _ _ h => h) ?_ ?_
    · rintro p L w1 ⟨hsz, hB, v, h_r⟩ hk
      have L8 : L 8 = false := hk.2.2 8 rfl
      first | exact valR_row _ _ rfl _ rfl _ _ v _ Tryz.underlying46 rfl (by first | kernel_rfl | (rw [rbc_size]; kernel_rfl)) rfl | (have hc := v.cellIs (show _[0]? = some _ from rfl); go_simp; exact ⟨rfl, rfl⟩)
    refine stepD 1 rfl (fun p => rfl) (fun _ _ _ h => h) more ?_ ?_
    · rintro p L w1 ⟨hsz, hB, v, h_r⟩ hk
      go_simp
      refine (MA.out _).mono ?_
      rintro e w2 ⟨rfl, h2⟩
      first | exact ⟨rfl, h2⟩ | (subst h2; exact ⟨rfl, Below.refl _ _⟩)
    iterate 4 (refine stepV _ rfl rfl (fun _ _ _ h => h) (by intros; go_simp; exact ⟨rfl, rfl⟩) ?_)
    refine AllI.cons ?_ ?_
    · refine stepI_alloc 6 rfl (fun p => rfl) rfl (rbc BSt.zero) 52 (fun p => rfl) ?_ ?_
      · intro p w1
        go_simp
        first | rfl | rw [rbc_zero]
      rintro p L w1 ⟨hsz, hB, v, h_r⟩ hk
      have L8 : L 8 = false := hk.2.2 8 rfl
      refine ⟨Nat.le_trans hsz (by simp), hB.alloc (Nat.le_trans (by first | exact hW0 | (have := hB.size; simp at this ⊢; omega)) hsz) _, v.alloc _, fun _ => ⟨hsz, ?_⟩⟩
      rw [show upL L 6 8 = false from L8]
      exact blk.new _ _ _
    refine stepV _ rfl rfl (fun _ _ _ h => h) (by intros; go_simp; exact ⟨rfl, rfl⟩) ?_
    refine AllI.cons ?_ ?_
    · refine stepI_store 8 rfl (fun p => rfl) (fun p => rfl) _ _ _ rfl (fun p => p 6) 0 (fun p => rfl) (fun p => (rbc BSt.zero)) (fun p => rfl) (fun p => (rbc BSt.zero)) (fun p => (rbc BSt.zero)) 52 (fun p => over_rr _ _) (fun p => by first | (rw [rbc_size, rbc_size]; decide) | simp [rbc_size, rbc_size]) (fun p => by rw [rbc_size]; kernel_rfl) (fun p => rbc_one _) ?_ ?_
      · rintro p L w1 ⟨hsz, hB, v, h_r⟩ hk
        have L8 : L 8 = false := hk.1
        have hh := (h_r (hk.2.1 6 rfl)).2
        rw [L8] at hh
        try simp only [cond_true, cond_false] at hh
        exact hh
      · rintro p L w1 ⟨hsz, hB, v, h_r⟩ hk
        have L8 : L 8 = false := hk.1
        skip
        have hp := h_r (hk.2.1 6 rfl)
        refine ⟨(by simpa using hsz), Below.setRow hB (by first | exact Nat.le_trans hW0 hp.1 | exact ge_r | omega | (have := hB.size; simp at this ⊢; omega)) _, v.rowOther (by first | exact Nat.ne_of_lt (Nat.lt_of_lt_of_le lt_v hp.1) | omega) _, fun _ => ⟨hp.1, ?_⟩⟩
        rw [show upL L 8 8 = true from rfl]
        exact hp.2.row _
    refine stepV _ rfl rfl (fun _ _ _ h => h) (by intros; go_simp; exact ⟨rfl, rfl⟩) ?_
    exact AllI.nil
  case hV0 =>
    intro p q
    refine AllI.cons ?_ ?_
    · skip
      iterate 10 (refine AllI.cons (by first | exact .inl rfl | (refine .inr ?_; simp only [List.getD_cons_zero, List.getD_cons_succ]; done) | exact .inr rfl) ?_)
      exact AllI.nil
    exact AllI.nil
  case he =>
  clear hB v
  rintro p w0r ⟨hsz, hB, v, h_r⟩
  obtain ⟨le_r, r⟩ := h_r rfl
  clear h_r
  replace r : blk w0r (p 6) (rbc BSt.zero) 52 := r
  have ne_v_r : w.heap.size ≠ p 6 := Nat.ne_of_lt (Nat.lt_of_lt_of_le lt_v le_r)
  have ge_r : w.heap.size ≤ p 6 := Nat.le_trans hW0 le_r
  generalize p 6 = r_b at *
  clear lt_v hsz hW0
  go_wp2_with (first
    | (go_at_call 15; with_reducible refine (AW.out _).mono ?_; rintro e w9 ⟨rfl, hb⟩; replace hB := hB.trans (hb.mono hB.size); replace v := v.below hb v.lt; replace r := r.below hb r.lt; clear hb))
  go_ret
  exact ⟨rfl, hB⟩
set_option maxRecDepth 100000 in
set_option maxHeartbeats 30000000 in
theorem bpl_ok (x : BSt) (a : Option Addr) (n c : Nat) (x0 : Nat → ActT) (w : World) (hn : n ≤ 60) (hQ : ∀ i, i < 4 → I64 (x.Q i)) (hk : newOk x = true) (el : ElemsA w a n 9 (fun k => (actc (x0 k)).toList)) : Calls Tryz.prog 4 #[.agg (rbc x), .slice a n c] w fun e w' => e = .returned (.bool true) ∧ Below w.heap.size w w' := by
  have AW := Lib.hid (fun w => awake24_any w)
  have d1 : decide ((60 : Int) < (n : Int)) = false := decide_eq_false (by omega)
  have d2 : decide (60 < n) = false := decide_eq_false (by omega)
  have MA := Lib.hid (fun w => made_yes x w hQ hk)
  have KX := newOk_BI hQ hk
  replace KX := Lib.hid KX
  replace el := Lib.hid el
  clear hQ hk
  go_enter Tryz.func4, Tryz.ntmps4
  go_upto_region 1 with (fail)
  have v : blk (w.alloc (.cells (rbc x) 46)) w.heap.size (rbc x) 46 := blk.new _ _ _
  have hB : Below w.heap.size w (w.alloc (.cells (rbc x) 46)) := by go_grown
  generalize (w.alloc (.cells (rbc x) 46)) = w0 at *
  have out_v := v.lt
  have hlo : w.heap.size ≤ w0.heap.size := hB.size
  go_upto_region 4 with (first | (refine wpList_load_rowG ?hw _ _ rfl _ rfl _ _ _ _ v Tryz.underlying46 rfl ?hi ?_; (case hw => (first | rfl | (simp [Region.wanted, yielded]; done))); (case hi => (first | kernel_rfl | (rw [rbc_size]; kernel_rfl)))) | (go_at_call 16; with_reducible refine (MA.out _).mono ?_; rintro e w1 ⟨ob, rfl, o, hb⟩; replace hB := hB.trans (hb.mono hB.size); replace v := v.below hb v.lt; clear hb) | (rw [rbc_zero]; refine wpList_store_row rfl _ _ _ rfl _ rfl _ rfl _ _ (blk.new _ _ _) (by first | kernel_rfl | (rw [rbc_size]; kernel_rfl)) (by first | rfl | simp only [rbc_size]) (by first | exact rbc_one _ | rfl) ?_))
  clear MA v out_v
  have ge_r : w.heap.size ≤ w1.heap.size := hB.size
  have r := (blk.new w1 (rbc BSt.zero) 52).row (rbc x)
  replace hB := Below.setRow (hB.alloc hB.size (.cells (rbc BSt.zero) 52)) (g := w1.heap.size) hB.size (rbc x)
  have hne : ∀ x, x < w1.heap.size → x ≠ w1.heap.size := fun x hx => Nat.ne_of_lt hx
  have out_r : ob < w1.heap.size := o.lt
  replace o := (o.alloc (.cells (rbc BSt.zero) 52)).rowOther (.inr o.lt) (rbc x)
  clear hne
  generalize (w1.alloc (.cells (rbc BSt.zero) 52)).setRow w1.heap.size (rbc x) = w1x at *
  generalize w1.heap.size = r_b at *
  go_wp2_with (fail)
  go_loopg [8] n (fun g_ iv wr => ∃ K : Nat, ∃ Y : BSt, g_ + K = n ∧ iv = .int .i64 K ∧ BI Y ∧ bod w0.heap.size ob wr Y ∧ blk wr r_b (rbc Y) 52 ∧ Below w.heap.size w wr)
  case atStart => exact ⟨0, x, by omega, rfl, KX.out, o, r, hB⟩
  case round =>
    clear KX o r hB
    obtain ⟨K, X, hK, rfl, KX, o, r, hB⟩ := hrel
    have SA := Lib.hid (fun w (h : bod w0.heap.size ob w X) => same_any X _ ob w h KX)
    by_cases hKn : K < n
    · have hdK : decide ((K : Int) < n) = true := decide_eq_true (by omega)
      have hdK' : decide (K < n) = true := decide_eq_true hKn
      have hk3 : (K : Int) < n := by omega
      have hk0 : (0 : Int) ≤ K := by omega
      have hwK : IntKind.i64.wrap ((K : Int) + 1) = ((K + 1 : Nat) : Int) := by rw [IntKind.wrap_i64]; omega
      obtain ⟨eb, eo, rfl, hEl, hE⟩ := el.out K hKn
      replace hE : w.rangeAt eb (eo + K * 9) ((actc (x0 K)).toList) := hE
      generalize x0 K = y at hE
      obtain ⟨yw, yc, yt, yi⟩ := y
      have TK := Lib.hid (fun w (h : bod w0.heap.size ob w X) => btick_any X _ ob yc yt w h KX.q KX.s (KX.att _).1)
      have RT := Lib.hid (fun w => rtick_any X yc yt w KX.q KX.s (KX.att _).1)
      have FA := Lib.hid (fun w (h : bod w0.heap.size ob w X) => bfail_any X _ ob yi w h)
      have RF := Lib.hid (fun w => rbfail_any X yi w)
      have KF := Lib.hid (KX.fail yi)
      have KT := Lib.hid (KX.tick yc yt)
      clear KX
      go_upto_region 11 with (fail)
      have lt_o := o.lt
      have lt_r := r.lt
      have hW0 : w.heap.size ≤ wr.heap.size := by simpa using hB.size
      apply wp_region_Q 6 [0, 1, 3, 7, 15, 31] [4] [_, _, _, _, (fun p => .pointer (some ⟨p 4, 0, none⟩)), (fun _ => undef)] (fun p L w' => wr.heap.size ≤ w'.heap.size ∧ Below w.heap.size w w' ∧ bod w0.heap.size ob w' (X) ∧ blk w' r_b (rbc X) 52 ∧ (L 4 = true → wr.heap.size ≤ p 4 ∧ blk w' (p 4) (bif L 5 then (actc (yw, yc, yt, yi)) else (actc (0, fun _ => 0, fun _ => 0, 0))) 56)) _ [(0, 39), (1, 40), (2, 41), (3, 42), (4, 9)] [0, 1, 2, 3, 4, 5]
      case hn => rfl
      case hB => kernel_rfl
      case hds => kernel_rfl
      case hA => (intro p; simp only [putsD, Act.put, sIT, sCZ, sCS, List.getD_cons_zero, List.getD_cons_succ]; exact rfl)
      case h0 => exact fun p => ⟨Nat.le_refl _, hB, o, r, fun h => absurd h (by decide)⟩
      case hmore => exact fun p L w1 w2 ⟨hsz, hB, o, r, h_ac⟩ hm => ⟨Nat.le_trans hsz hm.size, hB.trans (hm.mono (Nat.le_trans hW0 hsz)), o.below hm o.lt, r.below hm r.lt, fun hl => ⟨(h_ac hl).1, (h_ac hl).2.below hm (h_ac hl).2.lt⟩⟩
      case hs =>
        intro more
        iterate 3 (refine stepV _ rfl rfl (fun _ _ _ h => h) (by intros; go_simp; exact ⟨rfl, rfl⟩) ?_)
        refine stepV 3 rfl rfl (fun _ _ _ h => h) ?_ ?_
        · rintro p L w1 ⟨hsz, hB, o, r, h_ac⟩ hk
          have hr := range_below hE hB hEl
          exact valR_range _ _ rfl _ _ rfl _ (eo + K * 9) 0 hr (by first | rfl | omega) (actc (yw, yc, yt, yi)) (act_l (yw, yc, yt, yi)) _ Tryz.underlying56 rfl (by rw [actc_size]; kernel_rfl) rfl
        refine AllI.cons ?_ ?_
        · refine stepI_alloc 4 rfl (fun p => rfl) rfl (actc (0, fun _ => 0, fun _ => 0, 0)) 56 (fun p => rfl) ?_ ?_
          · intro p w1
            go_simp
            first | rfl | rw [actc_zero]
          rintro p L w1 ⟨hsz, hB, o, r, h_ac⟩ hk
          have L5 : L 5 = false := hk.2.2 5 rfl
          refine ⟨Nat.le_trans hsz (by simp), hB.alloc (Nat.le_trans (by first | exact hW0 | (have := hB.size; simp at this ⊢; omega)) hsz) _, o.alloc _, r.alloc _, fun _ => ⟨hsz, ?_⟩⟩
          rw [show upL L 4 5 = false from L5]
          exact blk.new _ _ _
        refine AllI.cons ?_ ?_
        · refine stepI_store 5 rfl (fun p => rfl) (fun p => rfl) _ _ _ rfl (fun p => p 4) 0 (fun p => rfl) (fun p => (actc (yw, yc, yt, yi))) (fun p => rfl) (fun p => (actc (0, fun _ => 0, fun _ => 0, 0))) (fun p => (actc (yw, yc, yt, yi))) 56 (fun p => over_full rfl) (fun p => by first | (rw [actc_size, actc_size]; decide) | simp [actc_size, actc_size]) (fun p => by rw [actc_size]; kernel_rfl) (fun p => actc_one _) ?_ ?_
          · rintro p L w1 ⟨hsz, hB, o, r, h_ac⟩ hk
            have L5 : L 5 = false := hk.1
            have hh := (h_ac (hk.2.1 4 rfl)).2
            rw [L5] at hh
            try simp only [cond_true, cond_false] at hh
            exact hh
          · rintro p L w1 ⟨hsz, hB, o, r, h_ac⟩ hk
            have L5 : L 5 = false := hk.1
            skip
            have hp := h_ac (hk.2.1 4 rfl)
            refine ⟨(by simpa using hsz), Below.setRow hB (by first | exact Nat.le_trans hW0 hp.1 | exact ge_ac | omega | (have := hB.size; simp at this ⊢; omega)) _, o.rowOther (.inr (Nat.lt_of_lt_of_le lt_o hp.1)) _, r.rowOther (by first | exact Nat.ne_of_lt (Nat.lt_of_lt_of_le lt_r hp.1) | omega) _, fun _ => ⟨hp.1, ?_⟩⟩
            rw [show upL L 5 5 = true from rfl]
            exact hp.2.row _
        exact AllI.nil
      case hV0 =>
        intro p q
        refine AllI.cons ?_ ?_
        · skip
          iterate 6 (refine AllI.cons (by first | exact .inl rfl | (refine .inr ?_; simp only [List.getD_cons_zero, List.getD_cons_succ]; done) | exact .inr rfl) ?_)
          exact AllI.nil
        exact AllI.nil
      case he =>
      clear hB o r
      rintro p wrr ⟨hsz, hB, o, r, h_ac⟩
      obtain ⟨le_ac, ac⟩ := h_ac rfl
      clear h_ac
      replace ac : blk wrr (p 4) (actc (yw, yc, yt, yi)) 56 := ac
      have ne_o_ac : ob ≠ p 4 := Nat.ne_of_lt (Nat.lt_of_lt_of_le lt_o le_ac)
      have ne_r_ac : r_b ≠ p 4 := Nat.ne_of_lt (Nat.lt_of_lt_of_le lt_r le_ac)
      have ge_ac : w.heap.size ≤ p 4 := Nat.le_trans hW0 le_ac
      have out_ac : ob < p 4 := Nat.lt_of_lt_of_le lt_o le_ac
      generalize p 4 = ac_b at *
      clear lt_o lt_r hsz hW0
      go_upto_region 12 with (fail)
      have lt_o := o.lt
      have lt_r := r.lt
      have lt_ac := ac.lt
      have hW0 : w.heap.size ≤ wrr.heap.size := by simpa using hB.size
      apply wp_region_Q 4 [0, 1, 3, 7] [] [_, _, _, _] (fun p L w' => wrr.heap.size ≤ w'.heap.size ∧ Below w.heap.size w w' ∧ bod w0.heap.size ob w' (X) ∧ blk w' r_b (rbc X) 52 ∧ blk w' ac_b (actc (yw, yc, yt, yi)) 56) _ [(0, 43), (1, 44), (2, 45), (3, 46)] [0, 1, 2, 3]
      case hn => rfl
      case hB => kernel_rfl
      case hds => kernel_rfl
      case hA => (intro p; simp only [putsD, Act.put, sIT, sCZ, sCS, List.getD_cons_zero, List.getD_cons_succ]; exact rfl)
      case h0 => exact fun p => ⟨Nat.le_refl _, hB, o, r, ac⟩
      case hmore => exact fun p L w1 w2 ⟨hsz, hB, o, r, ac⟩ hm => ⟨Nat.le_trans hsz hm.size, hB.trans (hm.mono (Nat.le_trans hW0 hsz)), o.below hm o.lt, r.below hm r.lt, ac.below hm ac.lt⟩
      case hs =>
        intro more
        refine stepV _ rfl rfl (fun _ _ _ h => h) (by intros; go_simp; exact ⟨rfl, rfl⟩) ?_
        refine stepV 1 rfl rfl (fun _ _ _ h => h) ?_ ?_
        · rintro p L w1 ⟨hsz, hB, o, r, ac⟩ hk
          first | exact valR_row _ _ rfl _ rfl _ _ r _ Tryz.underlying52 rfl (by first | kernel_rfl | (rw [rbc_size]; kernel_rfl)) rfl | (have hc := r.cellIs (show _[0]? = some _ from rfl); go_simp; exact ⟨rfl, rfl⟩)
        refine stepD 2 rfl (fun p => rfl) (fun _ _ _ h => h) more ?_ ?_
        · rintro p L w1 ⟨hsz, hB, o, r, ac⟩ hk
          go_simp
          refine (SA.out _ o).mono ?_
          rintro e w2 ⟨rfl, h2⟩
          first | exact ⟨rfl, h2⟩ | (subst h2; exact ⟨rfl, Below.refl _ _⟩)
        refine stepV _ rfl rfl (fun _ _ _ h => h) (by intros; go_simp; exact ⟨rfl, rfl⟩) ?_
        exact AllI.nil
      case hV0 => exact fun p q => AllI.nil
      case he =>
      clear hB o r ac
      rintro p wrrr ⟨hsz, hB, o, r, ac⟩
      clear lt_o lt_r lt_ac hsz hW0 SA hE
      have c0 : wrrr.cell? ⟨ac_b, 0, none⟩ = some (.int .u8 yw) := ac.cellIs rfl
      by_cases hw3 : yw.tmod 4 = 3
      · have r1 : (yw.tmod 4 == 3) = true := by simp [hw3]
        clear TK RT KT
        go_upto_region 15 with (fail)
        clear c0
        have lt_o := o.lt
        have lt_r := r.lt
        have lt_ac := ac.lt
        have hW0 : w.heap.size ≤ wrrr.heap.size := by simpa using hB.size
        apply wp_region_Q 5 [0, 1, 3, 7, 15] [] [_, _, _, _, _] (fun p L w' => wrrr.heap.size ≤ w'.heap.size ∧ Below w.heap.size w w' ∧ bod w0.heap.size ob w' (bif L 3 then ((failX X yi)) else (X)) ∧ blk w' r_b (rbc X) 52 ∧ blk w' ac_b (actc (yw, yc, yt, yi)) 56) _ [(0, 51), (1, 52), (2, 53), (3, 54), (4, 10)] [0, 1, 2, 3, 4]
        case hn => rfl
        case hB => kernel_rfl
        case hds => kernel_rfl
        case hA => (intro p; simp only [putsD, Act.put, sIT, sCZ, sCS, List.getD_cons_zero, List.getD_cons_succ]; exact rfl)
        case h0 => exact fun p => ⟨Nat.le_refl _, hB, o, r, ac⟩
        case hmore => exact fun p L w1 w2 ⟨hsz, hB, o, r, ac⟩ hm => ⟨Nat.le_trans hsz hm.size, hB.trans (hm.mono (Nat.le_trans hW0 hsz)), o.below hm o.lt, r.below hm r.lt, ac.below hm ac.lt⟩
        case hs =>
          intro more
          iterate 2 (refine stepV _ rfl rfl (fun _ _ _ h => h) (by intros; go_simp; exact ⟨rfl, rfl⟩) ?_)
          refine stepV 2 rfl rfl (fun _ _ _ h => h) ?_ ?_
          · rintro p L w1 ⟨hsz, hB, o, r, ac⟩ hk
            have L3 : L 3 = false := hk.2.2 3 rfl
            have hc : w1.cell? ⟨ac_b, 8, none⟩ = some (.int .i64 yi) := ac.cellIs rfl
            go_simp
            exact ⟨rfl, rfl⟩
          refine AllI.cons ?_ ?_
          · refine stepI_rel 3 rfl (fun p => rfl) (fun p w1 w2 => bod w0.heap.size ob w2 ((failX X yi)) ∧ Save w0.heap.size ob w1 w2) ?_ ?_
            · rintro p L w1 ⟨hsz, hB, o, r, ac⟩ hk
              have L3 : L 3 = false := hk.1
              rw [L3] at o
              try simp only [cond_true, cond_false] at o
              go_simp
              refine (FA.out _ o).mono ?_
              rintro e w2 ⟨rfl, h2, h3⟩
              exact ⟨rfl, h2, h3⟩
            · rintro p L w1 w2 ⟨hsz, hB, o, r, ac⟩ hk ⟨h2, h3⟩
              have L3 : L 3 = false := hk.1
              refine ⟨Nat.le_trans hsz h3.size, hB.trans (h3.below (Nat.le_trans hW0 hsz) (by omega)), ?_, r.save h3 (by first | exact .inr out_r | exact .inl out_r | omega), ac.save h3 (by first | exact .inr out_ac | exact .inl out_ac | omega)⟩
              rw [show upL L 3 3 = true from rfl]
              exact h2
          refine stepV _ rfl rfl (fun _ _ _ h => h) (by intros; go_simp; exact ⟨rfl, rfl⟩) ?_
          exact AllI.nil
        case hV0 => exact fun p q => AllI.nil
        case he =>
        clear hB o r ac
        rintro p wrrrr ⟨hsz, hB, o, r, ac⟩
        replace o : bod w0.heap.size ob wrrrr ((failX X yi)) := o
        clear lt_o lt_r lt_ac hsz hW0 FA
        go_upto_region 16 with (fail)
        have lt_o := o.lt
        have lt_r := r.lt
        have lt_ac := ac.lt
        have hW0 : w.heap.size ≤ wrrrr.heap.size := by simpa using hB.size
        apply wp_region_Q 10 [0, 1, 3, 7, 15, 31, 63, 127, 255, 511] [7] [_, _, _, _, _, _, _, (fun p => .pointer (some ⟨p 7, 0, none⟩)), (fun _ => undef), _] (fun p L w' => wrrrr.heap.size ≤ w'.heap.size ∧ Below w.heap.size w w' ∧ bod w0.heap.size ob w' ((failX X yi)) ∧ blk w' r_b (rbc X) 52 ∧ blk w' ac_b (actc (yw, yc, yt, yi)) 56 ∧ (L 7 = true → wrrrr.heap.size ≤ p 7 ∧ blk w' (p 7) (bif L 8 then (rbc (failX X yi)) else (rbc BSt.zero)) 52)) _ [(0, 56), (1, 57), (2, 58), (3, 59), (4, 55), (5, 60), (6, 61), (7, 11), (9, 12)] [0, 1, 2, 3, 4, 5, 6, 7, 8, 9]
        case hn => rfl
        case hB => kernel_rfl
        case hds => kernel_rfl
        case hA => (intro p; simp only [putsD, Act.put, sIT, sCZ, sCS, List.getD_cons_zero, List.getD_cons_succ]; exact rfl)
        case h0 => exact fun p => ⟨Nat.le_refl _, hB, o, r, ac, fun h => absurd h (by decide)⟩
        case hmore => exact fun p L w1 w2 ⟨hsz, hB, o, r, ac, h_nx⟩ hm => ⟨Nat.le_trans hsz hm.size, hB.trans (hm.mono (Nat.le_trans hW0 hsz)), o.below hm o.lt, r.below hm r.lt, ac.below hm ac.lt, fun hl => ⟨(h_nx hl).1, (h_nx hl).2.below hm (h_nx hl).2.lt⟩⟩
        case hs =>
          intro more
          refine stepV 0 rfl rfl (fun _ _ _ h => h) ?_ ?_
          · rintro p L w1 ⟨hsz, hB, o, r, ac, h_nx⟩ hk
            have L8 : L 8 = false := hk.2.2 8 rfl
            first | exact valR_row _ _ rfl _ rfl _ _ r _ Tryz.underlying52 rfl (by first | kernel_rfl | (rw [rbc_size]; kernel_rfl)) rfl | (have hc := r.cellIs (show _[0]? = some _ from rfl); go_simp; exact ⟨rfl, rfl⟩)
          refine stepV _ rfl rfl (fun _ _ _ h => h) (by intros; go_simp; exact ⟨rfl, rfl⟩) ?_
          refine stepV 2 rfl rfl (fun _ _ _ h => h) ?_ ?_
          · rintro p L w1 ⟨hsz, hB, o, r, ac, h_nx⟩ hk
            have L8 : L 8 = false := hk.2.2 8 rfl
            have hc : w1.cell? ⟨ac_b, 8, none⟩ = some (.int .i64 yi) := ac.cellIs rfl
            go_simp
            exact ⟨rfl, rfl⟩
          refine stepD 3 rfl (fun p => rfl) (fun _ _ _ h => h) more ?_ ?_
          · rintro p L w1 ⟨hsz, hB, o, r, ac, h_nx⟩ hk
            go_simp
            refine (RF.out _).mono ?_
            rintro e w2 ⟨rfl, h2⟩
            first | exact ⟨rfl, h2⟩ | (subst h2; exact ⟨rfl, Below.refl _ _⟩)
          iterate 3 (refine stepV _ rfl rfl (fun _ _ _ h => h) (by intros; go_simp; exact ⟨rfl, rfl⟩) ?_)
          refine AllI.cons ?_ ?_
          · refine stepI_alloc 7 rfl (fun p => rfl) rfl (rbc BSt.zero) 52 (fun p => rfl) ?_ ?_
            · intro p w1
              go_simp
              first | rfl | rw [rbc_zero]
            rintro p L w1 ⟨hsz, hB, o, r, ac, h_nx⟩ hk
            have L8 : L 8 = false := hk.2.2 8 rfl
            refine ⟨Nat.le_trans hsz (by simp), hB.alloc (Nat.le_trans (by first | exact hW0 | (have := hB.size; simp at this ⊢; omega)) hsz) _, o.alloc _, r.alloc _, ac.alloc _, fun _ => ⟨hsz, ?_⟩⟩
            rw [show upL L 7 8 = false from L8]
            exact blk.new _ _ _
          refine AllI.cons ?_ ?_
          · refine stepI_store 8 rfl (fun p => rfl) (fun p => rfl) _ _ _ rfl (fun p => p 7) 0 (fun p => rfl) (fun p => (rbc (failX X yi))) (fun p => rfl) (fun p => (rbc BSt.zero)) (fun p => (rbc (failX X yi))) 52 (fun p => over_rr _ _) (fun p => by first | (rw [rbc_size, rbc_size]; decide) | simp [rbc_size, rbc_size]) (fun p => by rw [rbc_size]; kernel_rfl) (fun p => rbc_one _) ?_ ?_
            · rintro p L w1 ⟨hsz, hB, o, r, ac, h_nx⟩ hk
              have L8 : L 8 = false := hk.1
              have hh := (h_nx (hk.2.1 7 rfl)).2
              rw [L8] at hh
              try simp only [cond_true, cond_false] at hh
              exact hh
            · rintro p L w1 ⟨hsz, hB, o, r, ac, h_nx⟩ hk
              have L8 : L 8 = false := hk.1
              skip
              have hp := h_nx (hk.2.1 7 rfl)
              refine ⟨(by simpa using hsz), Below.setRow hB (by first | exact Nat.le_trans hW0 hp.1 | exact ge_nx | omega | (have := hB.size; simp at this ⊢; omega)) _, o.rowOther (.inr (Nat.lt_of_lt_of_le lt_o hp.1)) _, r.rowOther (by first | exact Nat.ne_of_lt (Nat.lt_of_lt_of_le lt_r hp.1) | omega) _, ac.rowOther (by first | exact Nat.ne_of_lt (Nat.lt_of_lt_of_le lt_ac hp.1) | omega) _, fun _ => ⟨hp.1, ?_⟩⟩
              rw [show upL L 8 8 = true from rfl]
              exact hp.2.row _
          refine stepV _ rfl rfl (fun _ _ _ h => h) (by intros; go_simp; exact ⟨rfl, rfl⟩) ?_
          exact AllI.nil
        case hV0 =>
          intro p q
          refine AllI.cons ?_ ?_
          · skip
            iterate 10 (refine AllI.cons (by first | exact .inl rfl | (refine .inr ?_; simp only [List.getD_cons_zero, List.getD_cons_succ]; done) | exact .inr rfl) ?_)
            exact AllI.nil
          exact AllI.nil
        case he =>
        clear hB o r ac
        rintro p wrrrrr ⟨hsz, hB, o, r, ac, h_nx⟩
        obtain ⟨le_nx, nx⟩ := h_nx rfl
        clear h_nx
        replace nx : blk wrrrrr (p 7) (rbc (failX X yi)) 52 := nx
        have ne_o_nx : ob ≠ p 7 := Nat.ne_of_lt (Nat.lt_of_lt_of_le lt_o le_nx)
        have ne_r_nx : r_b ≠ p 7 := Nat.ne_of_lt (Nat.lt_of_lt_of_le lt_r le_nx)
        have ne_ac_nx : ac_b ≠ p 7 := Nat.ne_of_lt (Nat.lt_of_lt_of_le lt_ac le_nx)
        have ge_nx : w.heap.size ≤ p 7 := Nat.le_trans hW0 le_nx
        have out_nx : ob < p 7 := Nat.lt_of_lt_of_le lt_o le_nx
        generalize p 7 = nx_b at *
        clear lt_o lt_r lt_ac hsz hW0 RF
        go_upto_region 17 with (fail)
        have lt_o := o.lt
        have lt_r := r.lt
        have lt_ac := ac.lt
        have lt_nx := nx.lt
        have hW0 : w.heap.size ≤ wrrrrr.heap.size := by simpa using hB.size
        apply wp_region_Q 2 [0, 1] [] [_, (fun _ => undef)] (fun p L w' => wrrrrr.heap.size ≤ w'.heap.size ∧ Below w.heap.size w w' ∧ bod w0.heap.size ob w' ((failX X yi)) ∧ blk w' r_b (bif L 1 then (rbc (failX X yi)) else (rbc X)) 52 ∧ blk w' ac_b (actc (yw, yc, yt, yi)) 56 ∧ blk w' nx_b (rbc (failX X yi)) 52) _ [(0, 62)] [0, 1]
        case hn => rfl
        case hB => kernel_rfl
        case hds => kernel_rfl
        case hA => (intro p; simp only [putsD, Act.put, sIT, sCZ, sCS, List.getD_cons_zero, List.getD_cons_succ]; exact rfl)
        case h0 => exact fun p => ⟨Nat.le_refl _, hB, o, r, ac, nx⟩
        case hmore => exact fun p L w1 w2 ⟨hsz, hB, o, r, ac, nx⟩ hm => ⟨Nat.le_trans hsz hm.size, hB.trans (hm.mono (Nat.le_trans hW0 hsz)), o.below hm o.lt, r.below hm r.lt, ac.below hm ac.lt, nx.below hm nx.lt⟩
        case hs =>
          intro more
          refine stepV 0 rfl rfl (fun _ _ _ h => h) ?_ ?_
          · rintro p L w1 ⟨hsz, hB, o, r, ac, nx⟩ hk
            have L1 : L 1 = false := hk.2.2 1 rfl
            first | exact valR_row _ _ rfl _ rfl _ _ nx _ Tryz.underlying52 rfl (by first | kernel_rfl | (rw [rbc_size]; kernel_rfl)) rfl | (have hc := nx.cellIs (show _[0]? = some _ from rfl); go_simp; exact ⟨rfl, rfl⟩)
          refine AllI.cons ?_ ?_
          · refine stepI_store 1 rfl (fun p => rfl) (fun p => rfl) _ _ _ rfl (fun _ => r_b) 0 (fun p => rfl) (fun p => (rbc (failX X yi))) (fun p => rfl) (fun p => (rbc X)) (fun p => (rbc (failX X yi))) 52 (fun p => over_rr _ _) (fun p => by first | (rw [rbc_size, rbc_size]; decide) | simp [rbc_size, rbc_size]) (fun p => by rw [rbc_size]; kernel_rfl) (fun p => rbc_one _) ?_ ?_
            · rintro p L w1 ⟨hsz, hB, o, r, ac, nx⟩ hk
              have L1 : L 1 = false := hk.1
              rw [L1] at r
              try simp only [cond_true, cond_false] at r
              exact r
            · rintro p L w1 ⟨hsz, hB, o, r, ac, nx⟩ hk
              have L1 : L 1 = false := hk.1
              skip
              refine ⟨(by simpa using hsz), Below.setRow hB (by first | exact Nat.le_trans hW0 hp.1 | exact ge_r | omega | (have := hB.size; simp at this ⊢; omega)) _, o.rowOther (by first | exact .inr out_r | exact .inl out_r | omega) _, ?_, ac.rowOther (Ne.symm ne_r_ac) _, nx.rowOther (Ne.symm ne_r_nx) _⟩
              rw [show upL L 1 1 = true from rfl]
              exact r.row _
          exact AllI.nil
        case hV0 => exact fun p q => AllI.nil
        case he =>
        clear hB o r ac nx
        rintro p wrrrrrr ⟨hsz, hB, o, r, ac, nx⟩
        replace r : blk wrrrrrr r_b (rbc (failX X yi)) 52 := r
        clear lt_o lt_r lt_ac lt_nx hsz hW0
        go_wp2_with (fail)
        go_roundg (n - (K + 1))
        case rel => exact ⟨K + 1, _, by omega, rfl, KF.out, o, r, hB⟩
        case measure => omega
      · have r1 : (yw.tmod 4 == 3) = false := by simp [hw3]
        clear FA RF KF
        go_upto_region 20 with (fail)
        clear c0
        have lt_o := o.lt
        have lt_r := r.lt
        have lt_ac := ac.lt
        have hW0 : w.heap.size ≤ wrrr.heap.size := by simpa using hB.size
        apply wp_region_Q 12 [0, 1, 3, 7, 15, 31, 63, 127, 255, 511, 1023, 2047] [9] [_, _, _, _, _, _, _, _, _, (fun p => .pointer (some ⟨p 9, 0, none⟩)), (fun _ => undef), _] (fun p L w' => wrrr.heap.size ≤ w'.heap.size ∧ Below w.heap.size w w' ∧ bod w0.heap.size ob w' (bif L 5 then ((tickX X yc yt)) else (X)) ∧ blk w' r_b (rbc X) 52 ∧ blk w' ac_b (actc (yw, yc, yt, yi)) 56 ∧ (L 9 = true → wrrr.heap.size ≤ p 9 ∧ blk w' (p 9) (bif L 10 then (vfn (tickC X yc yt)) else (vfn fun _ => 0)) 27)) _ [(0, 67), (1, 68), (2, 69), (3, 70), (4, 71), (5, 72), (6, 66), (7, 73), (8, 74), (9, 13), (11, 14)] [0, 1, 2, 3, 4, 5, 6, 7, 8, 9, 10, 11]
        case hn => rfl
        case hB => kernel_rfl
        case hds => kernel_rfl
        case hA => (intro p; simp only [putsD, Act.put, sIT, sCZ, sCS, List.getD_cons_zero, List.getD_cons_succ]; exact rfl)
        case h0 => exact fun p => ⟨Nat.le_refl _, hB, o, r, ac, fun h => absurd h (by decide)⟩
        case hmore => exact fun p L w1 w2 ⟨hsz, hB, o, r, ac, h_ch⟩ hm => ⟨Nat.le_trans hsz hm.size, hB.trans (hm.mono (Nat.le_trans hW0 hsz)), o.below hm o.lt, r.below hm r.lt, ac.below hm ac.lt, fun hl => ⟨(h_ch hl).1, (h_ch hl).2.below hm (h_ch hl).2.lt⟩⟩
        case hs =>
          intro more
          iterate 2 (refine stepV _ rfl rfl (fun _ _ _ h => h) (by intros; go_simp; exact ⟨rfl, rfl⟩) ?_)
          refine stepV 2 rfl rfl (fun _ _ _ h => h) ?_ ?_
          · rintro p L w1 ⟨hsz, hB, o, r, ac, h_ch⟩ hk
            have L5 : L 5 = false := hk.2.2 5 rfl
            have L10 : L 10 = false := hk.2.2 10 rfl
            exact valR_part _ _ rfl _ 1 rfl _ _ ac (qfn yc) (act_c yw yc yt yi) _ Tryz.underlying28 rfl (by rw [qfn_size]; kernel_rfl) rfl
          refine stepV _ rfl rfl (fun _ _ _ h => h) (by intros; go_simp; exact ⟨rfl, rfl⟩) ?_
          refine stepV 4 rfl rfl (fun _ _ _ h => h) ?_ ?_
          · rintro p L w1 ⟨hsz, hB, o, r, ac, h_ch⟩ hk
            have L5 : L 5 = false := hk.2.2 5 rfl
            have L10 : L 10 = false := hk.2.2 10 rfl
            exact valR_part _ _ rfl _ 5 rfl _ _ ac (vfn yt) (act_t yw yc yt yi) _ Tryz.underlying27 rfl (by rw [vfn_size]; kernel_rfl) rfl
          refine AllI.cons ?_ ?_
          · refine stepI_rel 5 rfl (fun p => rfl) (fun p w1 w2 => bod w0.heap.size ob w2 ((tickX X yc yt)) ∧ Save w0.heap.size ob w1 w2) ?_ ?_
            · rintro p L w1 ⟨hsz, hB, o, r, ac, h_ch⟩ hk
              have L5 : L 5 = false := hk.1
              have L10 : L 10 = false := hk.2.2 10 rfl
              rw [L5] at o
              try simp only [cond_true, cond_false] at o
              go_simp
              refine (TK.out _ o).mono ?_
              rintro e w2 ⟨rfl, h2, h3⟩
              exact ⟨rfl, h2, h3⟩
            · rintro p L w1 w2 ⟨hsz, hB, o, r, ac, h_ch⟩ hk ⟨h2, h3⟩
              have L5 : L 5 = false := hk.1
              have L10 : L 10 = false := hk.2.2 10 rfl
              refine ⟨Nat.le_trans hsz h3.size, hB.trans (h3.below (Nat.le_trans hW0 hsz) (by omega)), ?_, r.save h3 (by first | exact .inr out_r | exact .inl out_r | omega), ac.save h3 (by first | exact .inr out_ac | exact .inl out_ac | omega), fun hl => ⟨(h_ch hl).1, (h_ch hl).2.save h3 (.inr (Nat.lt_of_lt_of_le lt_o (h_ch hl).1))⟩⟩
              rw [show upL L 5 5 = true from rfl]
              exact h2
          iterate 3 (refine stepV _ rfl rfl (fun _ _ _ h => h) (by intros; go_simp; exact ⟨rfl, rfl⟩) ?_)
          refine AllI.cons ?_ ?_
          · refine stepI_alloc 9 rfl (fun p => rfl) rfl (vfn fun _ => 0) 27 (fun p => rfl) ?_ ?_
            · intro p w1
              go_simp
              first | rfl | rw [zero_vec]
            rintro p L w1 ⟨hsz, hB, o, r, ac, h_ch⟩ hk
            have L5 : L 5 = true := hk.2.1 5 rfl
            have L10 : L 10 = false := hk.2.2 10 rfl
            refine ⟨Nat.le_trans hsz (by simp), hB.alloc (Nat.le_trans (by first | exact hW0 | (have := hB.size; simp at this ⊢; omega)) hsz) _, o.alloc _, r.alloc _, ac.alloc _, fun _ => ⟨hsz, ?_⟩⟩
            rw [show upL L 9 10 = false from L10]
            exact blk.new _ _ _
          refine AllI.cons ?_ ?_
          · refine stepI_store 10 rfl (fun p => rfl) (fun p => rfl) _ _ _ rfl (fun p => p 9) 0 (fun p => rfl) (fun p => (vfn (tickC X yc yt))) (fun p => rfl) (fun p => (vfn fun _ => 0)) (fun p => (vfn (tickC X yc yt))) 27 (fun p => over_v _ _) (fun p => by first | (rw [vfn_size, vfn_size]; decide) | simp [vfn_size, vfn_size]) (fun p => by rw [vfn_size]; kernel_rfl) (fun p => vfn_one _) ?_ ?_
            · rintro p L w1 ⟨hsz, hB, o, r, ac, h_ch⟩ hk
              have L5 : L 5 = true := hk.2.1 5 rfl
              have L10 : L 10 = false := hk.1
              have hh := (h_ch (hk.2.1 9 rfl)).2
              rw [L10] at hh
              try simp only [cond_true, cond_false] at hh
              exact hh
            · rintro p L w1 ⟨hsz, hB, o, r, ac, h_ch⟩ hk
              have L5 : L 5 = true := hk.2.1 5 rfl
              have L10 : L 10 = false := hk.1
              skip
              have hp := h_ch (hk.2.1 9 rfl)
              refine ⟨(by simpa using hsz), Below.setRow hB (by first | exact Nat.le_trans hW0 hp.1 | exact ge_ch | omega | (have := hB.size; simp at this ⊢; omega)) _, o.rowOther (.inr (Nat.lt_of_lt_of_le lt_o hp.1)) _, r.rowOther (by first | exact Nat.ne_of_lt (Nat.lt_of_lt_of_le lt_r hp.1) | omega) _, ac.rowOther (by first | exact Nat.ne_of_lt (Nat.lt_of_lt_of_le lt_ac hp.1) | omega) _, fun _ => ⟨hp.1, ?_⟩⟩
              rw [show upL L 10 10 = true from rfl]
              exact hp.2.row _
          refine stepV _ rfl rfl (fun _ _ _ h => h) (by intros; go_simp; exact ⟨rfl, rfl⟩) ?_
          exact AllI.nil
        case hV0 =>
          intro p q
          refine AllI.cons ?_ ?_
          · skip
            iterate 12 (refine AllI.cons (by first | exact .inl rfl | (refine .inr ?_; simp only [List.getD_cons_zero, List.getD_cons_succ]; done) | exact .inr rfl) ?_)
            exact AllI.nil
          exact AllI.nil
        case he =>
        clear hB o r ac
        rintro p wrrrr ⟨hsz, hB, o, r, ac, h_ch⟩
        obtain ⟨le_ch, ch⟩ := h_ch rfl
        clear h_ch
        replace o : bod w0.heap.size ob wrrrr ((tickX X yc yt)) := o
        replace ch : blk wrrrr (p 9) (vfn (tickC X yc yt)) 27 := ch
        have ne_o_ch : ob ≠ p 9 := Nat.ne_of_lt (Nat.lt_of_lt_of_le lt_o le_ch)
        have ne_r_ch : r_b ≠ p 9 := Nat.ne_of_lt (Nat.lt_of_lt_of_le lt_r le_ch)
        have ne_ac_ch : ac_b ≠ p 9 := Nat.ne_of_lt (Nat.lt_of_lt_of_le lt_ac le_ch)
        have ge_ch : w.heap.size ≤ p 9 := Nat.le_trans hW0 le_ch
        have out_ch : ob < p 9 := Nat.lt_of_lt_of_le lt_o le_ch
        generalize p 9 = ch_b at *
        clear lt_o lt_r lt_ac hsz hW0 TK
        go_upto_region 21 with (fail)
        have lt_o := o.lt
        have lt_r := r.lt
        have lt_ac := ac.lt
        have lt_ch := ch.lt
        have hW0 : w.heap.size ≤ wrrrr.heap.size := by simpa using hB.size
        apply wp_region_Q 15 [0, 1, 3, 7, 15, 31, 63, 127, 255, 511, 1023, 2047, 4095, 8191, 16383] [10, 11] [_, _, _, _, _, _, _, _, _, _, (fun p => .pointer (some ⟨p 10, 0, none⟩)), (fun p => .pointer (some ⟨p 11, 0, none⟩)), (fun _ => undef), (fun _ => undef), _] (fun p L w' => wrrrr.heap.size ≤ w'.heap.size ∧ Below w.heap.size w w' ∧ bod w0.heap.size ob w' ((tickX X yc yt)) ∧ blk w' r_b (rbc X) 52 ∧ blk w' ac_b (actc (yw, yc, yt, yi)) 56 ∧ blk w' ch_b (vfn (tickC X yc yt)) 27 ∧ (L 10 = true → wrrrr.heap.size ≤ p 10 ∧ blk w' (p 10) (bif L 12 then (rbc (tickX X yc yt)) else (rbc BSt.zero)) 52) ∧ (L 11 = true → wrrrr.heap.size ≤ p 11 ∧ blk w' (p 11) (bif L 13 then (vfn (tickC X yc yt)) else (vfn fun _ => 0)) 27) ∧ (L 10 = true → L 11 = true → p 10 ≠ p 11)) _ [(0, 76), (1, 77), (2, 78), (3, 79), (4, 80), (5, 81), (6, 75), (7, 82), (8, 83), (9, 84), (10, 15), (11, 16), (14, 17)] [0, 1, 2, 3, 4, 5, 6, 7, 8, 9, 10, 11, 12, 13, 14]
        case hn => rfl
        case hB => kernel_rfl
        case hds => kernel_rfl
        case hA => (intro p; simp only [putsD, Act.put, sIT, sCZ, sCS, List.getD_cons_zero, List.getD_cons_succ]; exact rfl)
        case h0 => exact fun p => ⟨Nat.le_refl _, hB, o, r, ac, ch, fun h => absurd h (by decide), fun h => absurd h (by decide), fun h => absurd h (by decide)⟩
        case hmore => exact fun p L w1 w2 ⟨hsz, hB, o, r, ac, ch, h_nx, h_d, hne_nx_d⟩ hm => ⟨Nat.le_trans hsz hm.size, hB.trans (hm.mono (Nat.le_trans hW0 hsz)), o.below hm o.lt, r.below hm r.lt, ac.below hm ac.lt, ch.below hm ch.lt, fun hl => ⟨(h_nx hl).1, (h_nx hl).2.below hm (h_nx hl).2.lt⟩, fun hl => ⟨(h_d hl).1, (h_d hl).2.below hm (h_d hl).2.lt⟩, hne_nx_d⟩
        case hs =>
          intro more
          refine stepV 0 rfl rfl (fun _ _ _ h => h) ?_ ?_
          · rintro p L w1 ⟨hsz, hB, o, r, ac, ch, h_nx, h_d, hne_nx_d⟩ hk
            have L12 : L 12 = false := hk.2.2 12 rfl
            have L13 : L 13 = false := hk.2.2 13 rfl
            first | exact valR_row _ _ rfl _ rfl _ _ r _ Tryz.underlying52 rfl (by first | kernel_rfl | (rw [rbc_size]; kernel_rfl)) rfl | (have hc := r.cellIs (show _[0]? = some _ from rfl); go_simp; exact ⟨rfl, rfl⟩)
          refine stepV _ rfl rfl (fun _ _ _ h => h) (by intros; go_simp; exact ⟨rfl, rfl⟩) ?_
          refine stepV 2 rfl rfl (fun _ _ _ h => h) ?_ ?_
          · rintro p L w1 ⟨hsz, hB, o, r, ac, ch, h_nx, h_d, hne_nx_d⟩ hk
            have L12 : L 12 = false := hk.2.2 12 rfl
            have L13 : L 13 = false := hk.2.2 13 rfl
            exact valR_part _ _ rfl _ 1 rfl _ _ ac (qfn yc) (act_c yw yc yt yi) _ Tryz.underlying28 rfl (by rw [qfn_size]; kernel_rfl) rfl
          refine stepV _ rfl rfl (fun _ _ _ h => h) (by intros; go_simp; exact ⟨rfl, rfl⟩) ?_
          refine stepV 4 rfl rfl (fun _ _ _ h => h) ?_ ?_
          · rintro p L w1 ⟨hsz, hB, o, r, ac, ch, h_nx, h_d, hne_nx_d⟩ hk
            have L12 : L 12 = false := hk.2.2 12 rfl
            have L13 : L 13 = false := hk.2.2 13 rfl
            exact valR_part _ _ rfl _ 5 rfl _ _ ac (vfn yt) (act_t yw yc yt yi) _ Tryz.underlying27 rfl (by rw [vfn_size]; kernel_rfl) rfl
          refine stepD 5 rfl (fun p => rfl) (fun _ _ _ h => h) more ?_ ?_
          · rintro p L w1 ⟨hsz, hB, o, r, ac, ch, h_nx, h_d, hne_nx_d⟩ hk
            go_simp
            refine (RT.out _).mono ?_
            rintro e w2 ⟨rfl, h2⟩
            first | exact ⟨rfl, h2⟩ | (subst h2; exact ⟨rfl, Below.refl _ _⟩)
          iterate 4 (refine stepV _ rfl rfl (fun _ _ _ h => h) (by intros; go_simp; exact ⟨rfl, rfl⟩) ?_)
          refine AllI.cons ?_ ?_
          · refine stepI_alloc 10 rfl (fun p => rfl) rfl (rbc BSt.zero) 52 (fun p => rfl) ?_ ?_
            · intro p w1
              go_simp
              first | rfl | rw [rbc_zero]
            rintro p L w1 ⟨hsz, hB, o, r, ac, ch, h_nx, h_d, hne_nx_d⟩ hk
            have L12 : L 12 = false := hk.2.2 12 rfl
            have L13 : L 13 = false := hk.2.2 13 rfl
            refine ⟨Nat.le_trans hsz (by simp), hB.alloc (Nat.le_trans (by first | exact hW0 | (have := hB.size; simp at this ⊢; omega)) hsz) _, o.alloc _, r.alloc _, ac.alloc _, ch.alloc _, fun _ => ⟨hsz, ?_⟩, fun hl => absurd hl (by rw [show upL L 10 11 = false from hk.2.2 11 rfl]; decide), fun _ hl => absurd hl (by rw [show upL L 10 11 = false from hk.2.2 11 rfl]; decide)⟩
            rw [show upL L 10 12 = false from L12]
            exact blk.new _ _ _
          refine AllI.cons ?_ ?_
          · refine stepI_alloc 11 rfl (fun p => rfl) rfl (vfn fun _ => 0) 27 (fun p => rfl) ?_ ?_
            · intro p w1
              go_simp
              first | rfl | rw [zero_vec]
            rintro p L w1 ⟨hsz, hB, o, r, ac, ch, h_nx, h_d, hne_nx_d⟩ hk
            have L12 : L 12 = false := hk.2.2 12 rfl
            have L13 : L 13 = false := hk.2.2 13 rfl
            refine ⟨Nat.le_trans hsz (by simp), hB.alloc (Nat.le_trans (by first | exact hW0 | (have := hB.size; simp at this ⊢; omega)) hsz) _, o.alloc _, r.alloc _, ac.alloc _, ch.alloc _, fun hl => ⟨(h_nx hl).1, (h_nx hl).2.alloc _⟩, fun _ => ⟨hsz, ?_⟩, fun hl _ => Nat.ne_of_lt (h_nx hl).2.lt⟩
            rw [show upL L 11 13 = false from L13]
            exact blk.new _ _ _
          refine AllI.cons ?_ ?_
          · refine stepI_store 12 rfl (fun p => rfl) (fun p => rfl) _ _ _ rfl (fun p => p 10) 0 (fun p => rfl) (fun p => (rbc (tickX X yc yt))) (fun p => rfl) (fun p => (rbc BSt.zero)) (fun p => (rbc (tickX X yc yt))) 52 (fun p => over_rr _ _) (fun p => by first | (rw [rbc_size, rbc_size]; decide) | simp [rbc_size, rbc_size]) (fun p => by rw [rbc_size]; kernel_rfl) (fun p => rbc_one _) ?_ ?_
            · rintro p L w1 ⟨hsz, hB, o, r, ac, ch, h_nx, h_d, hne_nx_d⟩ hk
              have L12 : L 12 = false := hk.1
              have L13 : L 13 = false := hk.2.2 13 rfl
              have hh := (h_nx (hk.2.1 10 rfl)).2
              rw [L12] at hh
              try simp only [cond_true, cond_false] at hh
              exact hh
            · rintro p L w1 ⟨hsz, hB, o, r, ac, ch, h_nx, h_d, hne_nx_d⟩ hk
              have L12 : L 12 = false := hk.1
              have L13 : L 13 = false := hk.2.2 13 rfl
              skip
              have hp := h_nx (hk.2.1 10 rfl)
              refine ⟨(by simpa using hsz), Below.setRow hB (by first | exact Nat.le_trans hW0 hp.1 | exact ge_nx | omega | (have := hB.size; simp at this ⊢; omega)) _, o.rowOther (.inr (Nat.lt_of_lt_of_le lt_o hp.1)) _, r.rowOther (by first | exact Nat.ne_of_lt (Nat.lt_of_lt_of_le lt_r hp.1) | omega) _, ac.rowOther (by first | exact Nat.ne_of_lt (Nat.lt_of_lt_of_le lt_ac hp.1) | omega) _, ch.rowOther (by first | exact Nat.ne_of_lt (Nat.lt_of_lt_of_le lt_ch hp.1) | omega) _, fun _ => ⟨hp.1, ?_⟩, fun hl => ⟨(h_d hl).1, (h_d hl).2.rowOther (Ne.symm (hne_nx_d (hk.2.1 10 rfl) hl)) _⟩, hne_nx_d⟩
              rw [show upL L 12 12 = true from rfl]
              exact hp.2.row _
          refine AllI.cons ?_ ?_
          · refine stepI_store 13 rfl (fun p => rfl) (fun p => rfl) _ _ _ rfl (fun p => p 11) 0 (fun p => rfl) (fun p => (vfn (tickC X yc yt))) (fun p => rfl) (fun p => (vfn fun _ => 0)) (fun p => (vfn (tickC X yc yt))) 27 (fun p => over_v _ _) (fun p => by first | (rw [vfn_size, vfn_size]; decide) | simp [vfn_size, vfn_size]) (fun p => by rw [vfn_size]; kernel_rfl) (fun p => vfn_one _) ?_ ?_
            · rintro p L w1 ⟨hsz, hB, o, r, ac, ch, h_nx, h_d, hne_nx_d⟩ hk
              have L12 : L 12 = true := hk.2.1 12 rfl
              have L13 : L 13 = false := hk.1
              have hh := (h_d (hk.2.1 11 rfl)).2
              rw [L13] at hh
              try simp only [cond_true, cond_false] at hh
              exact hh
            · rintro p L w1 ⟨hsz, hB, o, r, ac, ch, h_nx, h_d, hne_nx_d⟩ hk
              have L12 : L 12 = true := hk.2.1 12 rfl
              have L13 : L 13 = false := hk.1
              skip
              have hp := h_d (hk.2.1 11 rfl)
              refine ⟨(by simpa using hsz), Below.setRow hB (by first | exact Nat.le_trans hW0 hp.1 | exact ge_d | omega | (have := hB.size; simp at this ⊢; omega)) _, o.rowOther (.inr (Nat.lt_of_lt_of_le lt_o hp.1)) _, r.rowOther (by first | exact Nat.ne_of_lt (Nat.lt_of_lt_of_le lt_r hp.1) | omega) _, ac.rowOther (by first | exact Nat.ne_of_lt (Nat.lt_of_lt_of_le lt_ac hp.1) | omega) _, ch.rowOther (by first | exact Nat.ne_of_lt (Nat.lt_of_lt_of_le lt_ch hp.1) | omega) _, fun hl => ⟨(h_nx hl).1, (h_nx hl).2.rowOther (hne_nx_d hl (hk.2.1 11 rfl)) _⟩, fun _ => ⟨hp.1, ?_⟩, hne_nx_d⟩
              rw [show upL L 13 13 = true from rfl]
              exact hp.2.row _
          refine stepV _ rfl rfl (fun _ _ _ h => h) (by intros; go_simp; exact ⟨rfl, rfl⟩) ?_
          exact AllI.nil
        case hV0 =>
          intro p q
          refine AllI.cons ?_ ?_
          · skip
            iterate 15 (refine AllI.cons (by first | exact .inl rfl | (refine .inr ?_; simp only [List.getD_cons_zero, List.getD_cons_succ]; done) | exact .inr rfl) ?_)
            exact AllI.nil
          refine AllI.cons ?_ ?_
          · skip
            iterate 15 (refine AllI.cons (by first | exact .inl rfl | (refine .inr ?_; simp only [List.getD_cons_zero, List.getD_cons_succ]; done) | exact .inr rfl) ?_)
            exact AllI.nil
          exact AllI.nil
        case he =>
        clear hB o r ac ch
        rintro p wrrrrr ⟨hsz, hB, o, r, ac, ch, h_nx, h_d, hne_nx_d⟩
        obtain ⟨le_nx, nx⟩ := h_nx rfl
        clear h_nx
        obtain ⟨le_d, d⟩ := h_d rfl
        clear h_d
        have ne_nx_d : p 10 ≠ p 11 := hne_nx_d rfl rfl
        clear hne_nx_d
        replace nx : blk wrrrrr (p 10) (rbc (tickX X yc yt)) 52 := nx
        replace d : blk wrrrrr (p 11) (vfn (tickC X yc yt)) 27 := d
        have ne_o_nx : ob ≠ p 10 := Nat.ne_of_lt (Nat.lt_of_lt_of_le lt_o le_nx)
        have ne_r_nx : r_b ≠ p 10 := Nat.ne_of_lt (Nat.lt_of_lt_of_le lt_r le_nx)
        have ne_ac_nx : ac_b ≠ p 10 := Nat.ne_of_lt (Nat.lt_of_lt_of_le lt_ac le_nx)
        have ne_ch_nx : ch_b ≠ p 10 := Nat.ne_of_lt (Nat.lt_of_lt_of_le lt_ch le_nx)
        have ge_nx : w.heap.size ≤ p 10 := Nat.le_trans hW0 le_nx
        have out_nx : ob < p 10 := Nat.lt_of_lt_of_le lt_o le_nx
        have ne_o_d : ob ≠ p 11 := Nat.ne_of_lt (Nat.lt_of_lt_of_le lt_o le_d)
        have ne_r_d : r_b ≠ p 11 := Nat.ne_of_lt (Nat.lt_of_lt_of_le lt_r le_d)
        have ne_ac_d : ac_b ≠ p 11 := Nat.ne_of_lt (Nat.lt_of_lt_of_le lt_ac le_d)
        have ne_ch_d : ch_b ≠ p 11 := Nat.ne_of_lt (Nat.lt_of_lt_of_le lt_ch le_d)
        have ge_d : w.heap.size ≤ p 11 := Nat.le_trans hW0 le_d
        have out_d : ob < p 11 := Nat.lt_of_lt_of_le lt_o le_d
        generalize p 10 = nx_b at *
        generalize p 11 = d_b at *
        clear lt_o lt_r lt_ac lt_ch hsz hW0 RT
        go_upto_region 22 with (fail)
        have lt_o := o.lt
        have lt_r := r.lt
        have lt_ac := ac.lt
        have lt_ch := ch.lt
        have lt_nx := nx.lt
        have lt_d := d.lt
        have hW0 : w.heap.size ≤ wrrrrr.heap.size := by simpa using hB.size
        apply wp_region_Q 2 [0, 1] [] [_, (fun _ => undef)] (fun p L w' => wrrrrr.heap.size ≤ w'.heap.size ∧ Below w.heap.size w w' ∧ bod w0.heap.size ob w' ((tickX X yc yt)) ∧ blk w' r_b (bif L 1 then (rbc (tickX X yc yt)) else (rbc X)) 52 ∧ blk w' ac_b (actc (yw, yc, yt, yi)) 56 ∧ blk w' ch_b (vfn (tickC X yc yt)) 27 ∧ blk w' nx_b (rbc (tickX X yc yt)) 52 ∧ blk w' d_b (vfn (tickC X yc yt)) 27) _ [(0, 85)] [0, 1]
        case hn => rfl
        case hB => kernel_rfl
        case hds => kernel_rfl
        case hA => (intro p; simp only [putsD, Act.put, sIT, sCZ, sCS, List.getD_cons_zero, List.getD_cons_succ]; exact rfl)
        case h0 => exact fun p => ⟨Nat.le_refl _, hB, o, r, ac, ch, nx, d⟩
        case hmore => exact fun p L w1 w2 ⟨hsz, hB, o, r, ac, ch, nx, d⟩ hm => ⟨Nat.le_trans hsz hm.size, hB.trans (hm.mono (Nat.le_trans hW0 hsz)), o.below hm o.lt, r.below hm r.lt, ac.below hm ac.lt, ch.below hm ch.lt, nx.below hm nx.lt, d.below hm d.lt⟩
        case hs =>
          intro more
          refine stepV 0 rfl rfl (fun _ _ _ h => h) ?_ ?_
          · rintro p L w1 ⟨hsz, hB, o, r, ac, ch, nx, d⟩ hk
            have L1 : L 1 = false := hk.2.2 1 rfl
            first | exact valR_row _ _ rfl _ rfl _ _ nx _ Tryz.underlying52 rfl (by first | kernel_rfl | (rw [rbc_size]; kernel_rfl)) rfl | (have hc := nx.cellIs (show _[0]? = some _ from rfl); go_simp; exact ⟨rfl, rfl⟩)
          refine AllI.cons ?_ ?_
          · refine stepI_store 1 rfl (fun p => rfl) (fun p => rfl) _ _ _ rfl (fun _ => r_b) 0 (fun p => rfl) (fun p => (rbc (tickX X yc yt))) (fun p => rfl) (fun p => (rbc X)) (fun p => (rbc (tickX X yc yt))) 52 (fun p => over_rr _ _) (fun p => by first | (rw [rbc_size, rbc_size]; decide) | simp [rbc_size, rbc_size]) (fun p => by rw [rbc_size]; kernel_rfl) (fun p => rbc_one _) ?_ ?_
            · rintro p L w1 ⟨hsz, hB, o, r, ac, ch, nx, d⟩ hk
              have L1 : L 1 = false := hk.1
              rw [L1] at r
              try simp only [cond_true, cond_false] at r
              exact r
            · rintro p L w1 ⟨hsz, hB, o, r, ac, ch, nx, d⟩ hk
              have L1 : L 1 = false := hk.1
              skip
              refine ⟨(by simpa using hsz), Below.setRow hB (by first | exact Nat.le_trans hW0 hp.1 | exact ge_r | omega | (have := hB.size; simp at this ⊢; omega)) _, o.rowOther (by first | exact .inr out_r | exact .inl out_r | omega) _, ?_, ac.rowOther (Ne.symm ne_r_ac) _, ch.rowOther (Ne.symm ne_r_ch) _, nx.rowOther (Ne.symm ne_r_nx) _, d.rowOther (Ne.symm ne_r_d) _⟩
              rw [show upL L 1 1 = true from rfl]
              exact r.row _
          exact AllI.nil
        case hV0 => exact fun p q => AllI.nil
        case he =>
        clear hB o r ac ch nx d
        rintro p wrrrrrr ⟨hsz, hB, o, r, ac, ch, nx, d⟩
        replace r : blk wrrrrrr r_b (rbc (tickX X yc yt)) 52 := r
        clear lt_o lt_r lt_ac lt_ch lt_nx lt_d hsz hW0
        have E1 := vec_eq_self (tickC X yc yt)
        go_wp2_with (first
          | (refine wpList_load_rowG ?hw _ _ rfl _ rfl _ _ _ _ ch Tryz.underlying27 rfl ?hi ?_; (case hw => (first | rfl | (simp [Region.wanted, yielded]; done))); (case hi => (first | kernel_rfl | (rw [vfn_size]; kernel_rfl))))
          | (refine wpList_load_rowG ?hw _ _ rfl _ rfl _ _ _ _ d Tryz.underlying27 rfl ?hi ?_; (case hw => (first | rfl | (simp [Region.wanted, yielded]; done))); (case hi => (first | kernel_rfl | (rw [vfn_size]; kernel_rfl)))))
        go_roundg (n - (K + 1))
        case rel => exact ⟨K + 1, _, by omega, rfl, KT.out, o, r, hB⟩
        case measure => omega
    · obtain rfl : K = n := by omega
      have hdK : decide ((K : Int) < K) = false := decide_eq_false (by omega)
      have hdK' : decide (K < K) = false := decide_eq_false (by omega)
      go_wp2_with (first | (refine wpList_load_rowG ?hw _ _ rfl _ rfl _ _ _ _ r Tryz.underlying52 rfl ?hi ?_; (case hw => (first | rfl | (simp [Region.wanted, yielded]; done))); (case hi => (first | kernel_rfl | (rw [rbc_size]; kernel_rfl)))) | (go_at_call 17; with_reducible refine (SA.out _ o).mono ?_; rintro e w8 ⟨rfl, hb⟩; replace hB := hB.trans (hb.mono hB.size); clear hb) | (go_at_call 15; with_reducible refine (AW.out _).mono ?_; rintro e w9 ⟨rfl, hb⟩; replace hB := hB.trans (hb.mono hB.size); clear hb))
      go_ret
      exact ⟨rfl, hB⟩
theorem bplays_any (x : BSt) (a : Option Addr) (n c : Nat) (x0 : Nat → ActT) (w : World) (hQ : ∀ i, i < 4 → I64 (x.Q i)) (el : ElemsA w a n 9 (fun k => (actc (x0 k)).toList)) : Calls Tryz.prog 4 #[.agg (rbc x), .slice a n c] w fun e w' => e = .returned (.bool true) ∧ Below w.heap.size w w' := by
  by_cases hn : 60 < n
  · exact bpl_no x a n c w hn
  · cases hk : newOk x with
    | false => exact bpl_in x a n c w (by omega) hQ hk
    | true => exact bpl_ok x a n c x0 w (by omega) hQ hk el
end Go.Proofs.YtjnocbjngojigaaGreat
