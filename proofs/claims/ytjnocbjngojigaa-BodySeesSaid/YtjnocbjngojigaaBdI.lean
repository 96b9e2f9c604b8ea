/-
  Statements on bodies: vectors are seen as specified.
-/
import Derived.Test.YtjnocbjngojigaaBdH
import Derived.Test.YtjnocbjngojigaaLawQ
set_option linter.unusedSimpArgs false
set_option linter.unusedVariables false
namespace Go.Proofs.Ytjnocbjngojigaa
open Go.RowKit PM Dt
theorem act_0 (x : BSt) (j : Nat) (hj : j < (rbc x).size) : (rbc x)[0 + j]? = (rbc x)[j]? := by rw [Nat.zero_add]
theorem results_tct {P : Program} {fn : Func} {o p u : Tmp} {ty : TypeId} (h : fn.results = #[.tmp o, .cell p ty, .tmp u]) (tmps : Array Value) (w : World) (g : Nat) (t : TypeId) (cs : Array Value) (fr : Nat × Nat) (d : TypeDesc)
    (hp : tmps.getD p undef = .pointer (some ⟨g, 0, none⟩)) (hg : w.heap[g]? = some (.cells cs t fr))
    (hu : P.underlying ty = some d) (hd : (match d with | .struct _ | .array _ _ => true | _ => false) = true) (hi : (P.info? ty).map (·.size) = some cs.size) :
    (results fn tmps).run P w = .ok (.tuple #[tmps.getD o undef, .agg cs, tmps.getD u undef]) w := by
  have hp' : tmps[p]?.getD undef = .pointer (some ⟨g, 0, none⟩) := by simpa using hp
  simp only [results, h]
  simp [Sem.run_bind, hp', asAddr, run_loadVar_row w g t ty cs fr d hg hu hd hi, Result.andThen]
set_option maxRecDepth 100000 in
set_option maxHeartbeats 6000000 in
theorem made_no (x : BSt) (w : World) (hQ : ∀ i, i < 4 → I64 (x.Q i)) (hk : newOk x = false) : Calls Try.prog 15 #[.agg (rbc x)] w fun e w' => e = .returned (.tuple #[.pointer none, .agg (rbc BSt.zero), .bool true]) ∧ Below w.heap.size w w' := by
  have NB := Lib.hid (fun w => bnew_no x w hQ hk)
  have NR := Lib.hid (fun w => rbnew_no x w hQ hk)
  clear hQ hk
  go_enter Try.func15, Try.ntmps15
  go_upto_region 1 with (fail)
  simp only [rbc_zero]
  have v : blk ((w.alloc (.cells (rbc x) 27)).alloc (.cells (rbc BSt.zero) 32)) w.heap.size (rbc x) 27 := (blk.new _ _ _).alloc _
  have m : blk ((w.alloc (.cells (rbc x) 27)).alloc (.cells (rbc BSt.zero) 32)) (w.heap.size + 1) (rbc BSt.zero) 32 := blk.new' (by simp)
  have hB : Below w.heap.size w ((w.alloc (.cells (rbc x) 27)).alloc (.cells (rbc BSt.zero) 32)) := by go_grown
  generalize ((w.alloc (.cells (rbc x) 27)).alloc (.cells (rbc BSt.zero) 32)) = w0 at *
  have lt_v := v.lt
  have lt_m := m.lt
  have hW0 : w.heap.size ≤ w0.heap.size := by have := hB.size; first | exact this | simpa using this
  apply wp_region_Q 14 [0, 1, 3, 7, 15, 31, 63, 127, 255, 511, 1023, 2047, 4095, 8191] [] [_, _, _, _, _, _, _, _, _, _, _, _, _, _] (fun p L w' => w0.heap.size ≤ w'.heap.size ∧ Below w.heap.size w w' ∧ blk w' w.heap.size (rbc x) 27 ∧ blk w' (w.heap.size + 1) (rbc BSt.zero) 32) _ [(0, 10), (1, 11), (2, 12), (3, 13), (4, 14), (5, 15), (6, 16), (7, 17), (8, 18), (9, 9), (10, 19), (11, 20), (12, 5), (13, 6)] [0, 1, 2, 3, 4, 5, 6, 7, 8, 9, 10, 11, 12, 13]
  case hn => rfl
  case hB => kernel_rfl
  case hds => kernel_rfl
  case hA => (intro p; simp only [putsD, Act.put, List.setIfInBounds_toArray, List.set_cons_zero, List.set_cons_succ, List.getD_cons_zero, List.getD_cons_succ]; exact rfl)
  case h0 => exact fun p => ⟨Nat.le_refl _, hB, v, m⟩
  case hmore => exact fun p L w1 w2 ⟨hsz, hB, v, m⟩ hm => ⟨Nat.le_trans hsz hm.size, hB.trans (hm.mono (Nat.le_trans hW0 hsz)), v.below hm v.lt, m.below hm m.lt⟩
  case hs =>
    intro more
    refine stepV 0 rfl rfl (fun _ _ _ h => h) ?_ ?_
    · intros; go_simp; exact ⟨rfl, rfl⟩
    refine stepV 1 rfl rfl (fun _ _ _ h => h) ?_ ?_
    · rintro p L w1 ⟨hsz, hB, v, m⟩ hk
      exact valR_part _ _ rfl _ 0 rfl _ _ v (qfn x.Q) (rb_q x) _ Try.underlying23 rfl (by rw [qfn_size]; kernel_rfl) rfl
    refine stepV 2 rfl rfl (fun _ _ _ h => h) ?_ ?_
    · intros; go_simp; exact ⟨rfl, rfl⟩
    refine stepV 3 rfl rfl (fun _ _ _ h => h) ?_ ?_
    · rintro p L w1 ⟨hsz, hB, v, m⟩ hk
      exact valR_part _ _ rfl _ 4 rfl _ _ v (vfn x.T) (rb_t x) _ Try.underlying25 rfl (by rw [vfn_size]; kernel_rfl) rfl
    refine stepV 4 rfl rfl (fun _ _ _ h => h) ?_ ?_
    · intros; go_simp; exact ⟨rfl, rfl⟩
    refine stepV 5 rfl rfl (fun _ _ _ h => h) ?_ ?_
    · rintro p L w1 ⟨hsz, hB, v, m⟩ hk
      exact valR_part _ _ rfl _ 7 rfl _ _ v (qfn x.h) (rb_h x) _ Try.underlying22 rfl (by rw [qfn_size]; kernel_rfl) rfl
    refine stepV 6 rfl rfl (fun _ _ _ h => h) ?_ ?_
    · intros; go_simp; exact ⟨rfl, rfl⟩
    refine stepV 7 rfl rfl (fun _ _ _ h => h) ?_ ?_
    · rintro p L w1 ⟨hsz, hB, v, m⟩ hk
      have hc : w1.cell? ⟨w.heap.size, 11, none⟩ = some (.int .i64 x.f) := v.cellIs rfl
      go_simp
      exact ⟨rfl, rfl⟩
    refine stepD 8 rfl (fun p => rfl) (fun _ _ _ h => h) more ?_ ?_
    · rintro p L w1 ⟨hsz, hB, v, m⟩ hk
      go_simp
      refine (NB.out _).mono ?_
      rintro e w2 ⟨rfl, h2⟩
      first | exact ⟨rfl, h2⟩ | (subst h2; exact ⟨rfl, Below.refl _ _⟩)
    refine stepV 9 rfl rfl (fun _ _ _ h => h) ?_ ?_
    · intros; go_simp; exact ⟨rfl, rfl⟩
    refine stepV 10 rfl rfl (fun _ _ _ h => h) ?_ ?_
    · intros; go_simp; exact ⟨rfl, rfl⟩
    refine stepV 11 rfl rfl (fun _ _ _ h => h) ?_ ?_
    · intros; go_simp; exact ⟨rfl, rfl⟩
    refine stepV 12 rfl rfl (fun _ _ _ h => h) ?_ ?_
    · intros; go_simp; exact ⟨rfl, rfl⟩
    refine stepV 13 rfl rfl (fun _ _ _ h => h) ?_ ?_
    · intros; go_simp; exact ⟨rfl, rfl⟩
    exact AllI.nil
  case hV0 => exact fun p q => AllI.nil
  case he =>
  clear hB v m
  rintro p w0r ⟨hsz, hB, v, m⟩
  clear lt_v
  clear lt_m
  clear hsz hW0
  go_upto_region 2 with (fail)
  have lt_v := v.lt
  have lt_m := m.lt
  have hW0 : w.heap.size ≤ w0r.heap.size := by have := hB.size; first | exact this | simpa using this
  apply wp_region_Q 15 [0, 1, 3, 7, 15, 31, 63, 127, 255, 511, 1023, 2047, 4095, 8191, 16383] [12] [_, _, _, _, _, _, _, _, _, _, _, _, (fun p => .pointer (some ⟨p 12, 0, none⟩)), (fun _ => undef), _] (fun p L w' => w0r.heap.size ≤ w'.heap.size ∧ Below w.heap.size w w' ∧ blk w' w.heap.size (rbc x) 27 ∧ blk w' (w.heap.size + 1) (rbc BSt.zero) 32 ∧ (L 12 = true → w0r.heap.size ≤ p 12 ∧ blk w' (p 12) (bif L 13 then (rbc BSt.zero) else (rbc BSt.zero)) 32)) _ [(0, 22), (1, 23), (2, 24), (3, 25), (4, 26), (5, 27), (6, 28), (7, 29), (8, 30), (9, 21), (10, 31), (11, 32), (12, 7), (14, 8)] [0, 1, 2, 3, 4, 5, 6, 7, 8, 9, 10, 11, 12, 13, 14]
  case hn => rfl
  case hB => kernel_rfl
  case hds => kernel_rfl
  case hA => (intro p; simp only [putsD, Act.put, List.setIfInBounds_toArray, List.set_cons_zero, List.set_cons_succ, List.getD_cons_zero, List.getD_cons_succ]; exact rfl)
  case h0 => exact fun p => ⟨Nat.le_refl _, hB, v, m, fun h => absurd h (by decide)⟩
  case hmore => exact fun p L w1 w2 ⟨hsz, hB, v, m, h_r⟩ hm => ⟨Nat.le_trans hsz hm.size, hB.trans (hm.mono (Nat.le_trans hW0 hsz)), v.below hm v.lt, m.below hm m.lt, fun hl => ⟨(h_r hl).1, (h_r hl).2.below hm (h_r hl).2.lt⟩⟩
  case hs =>
    intro more
    refine stepV 0 rfl rfl (fun _ _ _ h => h) ?_ ?_
    · intros; go_simp; exact ⟨rfl, rfl⟩
    refine stepV 1 rfl rfl (fun _ _ _ h => h) ?_ ?_
    · rintro p L w1 ⟨hsz, hB, v, m, h_r⟩ hk
      have L13 : L 13 = false := hk.2.2 13 rfl
      exact valR_part _ _ rfl _ 0 rfl _ _ v (qfn x.Q) (rb_q x) _ Try.underlying23 rfl (by rw [qfn_size]; kernel_rfl) rfl
    refine stepV 2 rfl rfl (fun _ _ _ h => h) ?_ ?_
    · intros; go_simp; exact ⟨rfl, rfl⟩
    refine stepV 3 rfl rfl (fun _ _ _ h => h) ?_ ?_
    · rintro p L w1 ⟨hsz, hB, v, m, h_r⟩ hk
      have L13 : L 13 = false := hk.2.2 13 rfl
      exact valR_part _ _ rfl _ 4 rfl _ _ v (vfn x.T) (rb_t x) _ Try.underlying25 rfl (by rw [vfn_size]; kernel_rfl) rfl
    refine stepV 4 rfl rfl (fun _ _ _ h => h) ?_ ?_
    · intros; go_simp; exact ⟨rfl, rfl⟩
    refine stepV 5 rfl rfl (fun _ _ _ h => h) ?_ ?_
    · rintro p L w1 ⟨hsz, hB, v, m, h_r⟩ hk
      have L13 : L 13 = false := hk.2.2 13 rfl
      exact valR_part _ _ rfl _ 7 rfl _ _ v (qfn x.h) (rb_h x) _ Try.underlying22 rfl (by rw [qfn_size]; kernel_rfl) rfl
    refine stepV 6 rfl rfl (fun _ _ _ h => h) ?_ ?_
    · intros; go_simp; exact ⟨rfl, rfl⟩
    refine stepV 7 rfl rfl (fun _ _ _ h => h) ?_ ?_
    · rintro p L w1 ⟨hsz, hB, v, m, h_r⟩ hk
      have L13 : L 13 = false := hk.2.2 13 rfl
      have hc : w1.cell? ⟨w.heap.size, 11, none⟩ = some (.int .i64 x.f) := v.cellIs rfl
      go_simp
      exact ⟨rfl, rfl⟩
    refine stepD 8 rfl (fun p => rfl) (fun _ _ _ h => h) more ?_ ?_
    · rintro p L w1 ⟨hsz, hB, v, m, h_r⟩ hk
      go_simp
      refine (NR.out _).mono ?_
      rintro e w2 ⟨rfl, h2⟩
      first | exact ⟨rfl, h2⟩ | (subst h2; exact ⟨rfl, Below.refl _ _⟩)
    refine stepV 9 rfl rfl (fun _ _ _ h => h) ?_ ?_
    · intros; go_simp; exact ⟨rfl, rfl⟩
    refine stepV 10 rfl rfl (fun _ _ _ h => h) ?_ ?_
    · intros; go_simp; exact ⟨rfl, rfl⟩
    refine stepV 11 rfl rfl (fun _ _ _ h => h) ?_ ?_
    · intros; go_simp; exact ⟨rfl, rfl⟩
    refine AllI.cons ?_ ?_
    · refine stepI_alloc 12 rfl (fun p => rfl) rfl (rbc BSt.zero) 32 (fun p => rfl) ?_ ?_
      · intro p w1
        go_simp
        first | rfl | rw [rbc_zero]
      rintro p L w1 ⟨hsz, hB, v, m, h_r⟩ hk
      have L13 : L 13 = false := hk.2.2 13 rfl
      refine ⟨Nat.le_trans hsz (by simp), hB.alloc (Nat.le_trans (by first | exact hW0 | (have := hB.size; simp at this ⊢; omega)) hsz) _, v.alloc _, m.alloc _, fun _ => ⟨hsz, ?_⟩⟩
      rw [show upL L 12 13 = false from L13]
      exact blk.new _ _ _
    refine AllI.cons ?_ ?_
    · refine stepI_store 13 rfl (fun p => rfl) (fun p => rfl) _ _ _ rfl (fun p => p 12) 0 (fun p => rfl) (fun p => (rbc BSt.zero)) (fun p => rfl) (fun p => (rbc BSt.zero)) (fun p => (rbc BSt.zero)) 32 (fun p => over_rr _ _) (fun p => by first | (rw [rbc_size, rbc_size]; decide) | simp [rbc_size, rbc_size]) (fun p => by rw [rbc_size]; kernel_rfl) (fun p => rbc_one _) ?_ ?_
      · rintro p L w1 ⟨hsz, hB, v, m, h_r⟩ hk
        have L13 : L 13 = false := hk.1
        have hh := (h_r (hk.2.1 12 rfl)).2
        rw [L13] at hh
        try simp only [cond_true, cond_false] at hh
        exact hh
      · rintro p L w1 ⟨hsz, hB, v, m, h_r⟩ hk
        have L13 : L 13 = false := hk.1
        skip
        have hp := h_r (hk.2.1 12 rfl)
        refine ⟨(by simpa using hsz), Below.setRow hB (by first | exact Nat.le_trans hW0 hp.1 | exact ge_r | omega | (have := hB.size; simp at this ⊢; omega)) _, v.rowOther (by first | exact Nat.ne_of_lt (Nat.lt_of_lt_of_le lt_v hp.1) | omega) _, m.rowOther (by first | exact Nat.ne_of_lt (Nat.lt_of_lt_of_le lt_m hp.1) | omega) _, fun _ => ⟨hp.1, ?_⟩⟩
        rw [show upL L 13 13 = true from rfl]
        exact hp.2.row _
    refine stepV 14 rfl rfl (fun _ _ _ h => h) ?_ ?_
    · intros; go_simp; exact ⟨rfl, rfl⟩
    exact AllI.nil
  case hV0 =>
    intro p q
    refine AllI.cons ?_ ?_
    · skip
      iterate 15 (refine AllI.cons (by first | exact .inl rfl | (refine .inr ?_; simp only [List.getD_cons_zero, List.getD_cons_succ]; done) | exact .inr rfl) ?_)
      exact AllI.nil
    exact AllI.nil
  case he =>
  clear hB v m
  rintro p w0rr ⟨hsz, hB, v, m, h_r⟩
  obtain ⟨le_r, r⟩ := h_r rfl
  clear h_r
  replace r : blk w0rr (p 12) (rbc BSt.zero) 32 := r
  have ne_v_r : w.heap.size ≠ p 12 := Nat.ne_of_lt (Nat.lt_of_lt_of_le lt_v le_r)
  have ne_m_r : (w.heap.size + 1) ≠ p 12 := Nat.ne_of_lt (Nat.lt_of_lt_of_le lt_m le_r)
  have ge_r : w.heap.size ≤ p 12 := Nat.le_trans hW0 le_r
  generalize p 12 = r_b at *
  clear lt_v
  clear lt_m
  clear hsz hW0
  go_upto_region 3 with (fail)
  have lt_v := v.lt
  have lt_m := m.lt
  have lt_r := r.lt
  have hW0 : w.heap.size ≤ w0rr.heap.size := by have := hB.size; first | exact this | simpa using this
  apply wp_region_I 15 [0, 0, 0, 0, 12, 28, 60, 124, 60, 316, 1020, 2044, 61, 4159, 16383] [] [_, _, _, _, _, _, _, _, _, _, _, _, _, (fun _ => undef), _] (fun p L w' => w0rr.heap.size ≤ w'.heap.size ∧ Below w.heap.size w w' ∧ blk w' w.heap.size (rbc x) 27 ∧ blk w' (w.heap.size + 1) (bif L 13 then (rbc BSt.zero) else (rbc BSt.zero)) 32 ∧ blk w' r_b (rbc BSt.zero) 32) _ [(0, 33), (1, 34), (2, 35), (3, 36), (4, 37), (5, 38), (6, 39), (7, 40), (8, 41), (9, 42), (10, 43), (11, 44), (12, 2), (14, 4)] [0, 1, 2, 3, 4, 5, 6, 7, 8, 9, 10, 11, 12, 13, 14]
  case hn => rfl
  case hm => kernel_rfl
  case hB => kernel_rfl
  case hds => kernel_rfl
  case hA => (intro p; simp only [putsD, Act.put, List.setIfInBounds_toArray, List.set_cons_zero, List.set_cons_succ, List.getD_cons_zero, List.getD_cons_succ]; exact rfl)
  case h0 => exact fun p => ⟨Nat.le_refl _, hB.drew, v.drew, m.drew, r.drew⟩
  case hmore => exact fun p L w1 w2 ⟨hsz, hB, v, m, r⟩ hm => ⟨Nat.le_trans hsz hm.size, hB.trans (hm.mono (Nat.le_trans hW0 hsz)), v.below hm v.lt, m.below hm m.lt, r.below hm r.lt⟩
  case hs =>
    intro more
    refine stepV 0 rfl rfl (fun _ _ _ h => h) ?_ ?_
    · intros; go_simp; exact ⟨rfl, rfl⟩
    refine stepV 1 rfl rfl (fun _ _ _ h => h) ?_ ?_
    · rintro p L w1 ⟨hsz, hB, v, m, r⟩ hk
      have L13 : L 13 = false := hk.2.2 13 rfl
      first | exact valR_row _ _ rfl _ rfl _ _ r _ Try.underlying32 rfl (by first | kernel_rfl | (rw [rbc_size]; kernel_rfl)) rfl | (have hc := r.cellIs (show _[0]? = some _ from rfl); go_simp; exact ⟨rfl, rfl⟩)
    refine stepV 2 rfl rfl (fun _ _ _ h => h) ?_ ?_
    · intros; go_simp; exact ⟨rfl, rfl⟩
    refine stepV 3 rfl rfl (fun _ _ _ h => h) ?_ ?_
    · intros; go_simp; exact ⟨rfl, rfl⟩
    refine stepV 4 rfl rfl (fun _ _ _ h => h) ?_ ?_
    · intros; go_simp; exact ⟨rfl, rfl⟩
    refine stepV 5 rfl rfl (fun _ _ _ h => h) ?_ ?_
    · intros; go_simp; exact ⟨rfl, rfl⟩
    refine stepVg 6 rfl (fun p => (by first | rfl | (simp [Region.wanted, yielded]; done))) (fun _ _ _ h => h) ?_ ?_
    · intros; go_simp; exact ⟨rfl, rfl⟩
    refine stepVg 7 rfl (fun p => (by first | rfl | (simp [Region.wanted, yielded]; done))) (fun _ _ _ h => h) ?_ ?_
    · intros; go_simp; exact ⟨rfl, rfl⟩
    refine stepVg 8 rfl (fun p => (by first | rfl | (simp [Region.wanted, yielded]; done))) (fun _ _ _ h => h) ?_ ?_
    · intros; go_simp; exact ⟨rfl, rfl⟩
    refine stepVg 9 rfl (fun p => (by first | rfl | (simp [Region.wanted, yielded]; done))) (fun _ _ _ h => h) ?_ ?_
    · intros; go_simp; exact ⟨rfl, rfl⟩
    refine stepVg 10 rfl (fun p => (by first | rfl | (simp [Region.wanted, yielded]; done))) (fun _ _ _ h => h) ?_ ?_
    · intros; go_simp; exact ⟨rfl, rfl⟩
    refine stepV 11 rfl rfl (fun _ _ _ h => h) ?_ ?_
    · intros; go_simp; exact ⟨rfl, rfl⟩
    refine stepV 12 rfl rfl (fun _ _ _ h => h) ?_ ?_
    · intros; go_simp; exact ⟨rfl, rfl⟩
    refine AllI.cons ?_ ?_
    · refine stepI_store 13 rfl (fun p => rfl) (fun p => rfl) _ _ _ rfl (fun _ => (w.heap.size + 1)) 0 (fun p => rfl) (fun p => (rbc BSt.zero)) (fun p => rfl) (fun p => (rbc BSt.zero)) (fun p => (rbc BSt.zero)) 32 (fun p => over_rr _ _) (fun p => by first | (rw [rbc_size, rbc_size]; decide) | simp [rbc_size, rbc_size]) (fun p => by rw [rbc_size]; kernel_rfl) (fun p => rbc_one _) ?_ ?_
      · rintro p L w1 ⟨hsz, hB, v, m, r⟩ hk
        have L13 : L 13 = false := hk.1
        rw [L13] at m
        try simp only [cond_true, cond_false] at m
        exact m
      · rintro p L w1 ⟨hsz, hB, v, m, r⟩ hk
        have L13 : L 13 = false := hk.1
        skip
        refine ⟨(by simpa using hsz), Below.setRow hB (by first | exact Nat.le_trans hW0 hp.1 | exact ge_m | omega | (have := hB.size; simp at this ⊢; omega)) _, v.rowOther (by first | exact ne_v_m | exact Ne.symm ne_m_v | omega) _, ?_, r.rowOther (by first | exact ne_r_m | exact Ne.symm ne_m_r | omega) _⟩
        rw [show upL L 13 13 = true from rfl]
        exact m.row _
    refine stepV 14 rfl rfl (fun _ _ _ h => h) ?_ ?_
    · intros; go_simp; exact ⟨rfl, rfl⟩
    exact AllI.nil
  case hV0 => exact fun p q => AllI.nil
  case he =>
  clear hB v m r
  rintro p w0rrr ⟨hsz, hB, v, m, r⟩
  replace m : blk w0rrr (w.heap.size + 1) (rbc BSt.zero) 32 := m
  clear lt_v
  clear lt_m
  clear lt_r
  clear hsz hW0
  go_wp2_with (fail)
  refine bodyPost_ret (results_tct rfl _ _ _ _ _ _ _ rfl m Try.underlying32 rfl (by first | kernel_rfl | (rw [rbc_size]; kernel_rfl))) rfl ?_
  exact ⟨rfl, hB⟩
set_option maxRecDepth 100000 in
set_option maxHeartbeats 6000000 in
theorem made_yes (x : BSt) (w : World) (hQ : ∀ i, i < 4 → I64 (x.Q i)) (hk : newOk x = true) : Calls Try.prog 15 #[.agg (rbc x)] w fun e w' => ∃ b, e = .returned (.tuple #[.pointer (some ⟨b, 0, none⟩), .agg (rbc x), .bool true]) ∧ bod w.heap.size b w' x ∧ Below w.heap.size w w' := by
  have NB := Lib.hid (fun w => bnew_yes x w hQ hk)
  have NR := Lib.hid (fun w => rbnew_yes x w hQ hk)
  clear hQ hk
  go_enter Try.func15, Try.ntmps15
  go_upto_region 1 with (fail)
  simp only [rbc_zero]
  have v : blk ((w.alloc (.cells (rbc x) 27)).alloc (.cells (rbc BSt.zero) 32)) w.heap.size (rbc x) 27 := (blk.new _ _ _).alloc _
  have m : blk ((w.alloc (.cells (rbc x) 27)).alloc (.cells (rbc BSt.zero) 32)) (w.heap.size + 1) (rbc BSt.zero) 32 := blk.new' (by simp)
  have hB : Below w.heap.size w ((w.alloc (.cells (rbc x) 27)).alloc (.cells (rbc BSt.zero) 32)) := by go_grown
  generalize ((w.alloc (.cells (rbc x) 27)).alloc (.cells (rbc BSt.zero) 32)) = w0 at *
  have cf : w0.cell? ⟨w.heap.size, 11, none⟩ = some (.int .i64 x.f) := v.cellIs rfl
  have out_v := v.lt
  have out_m := m.lt
  have hlo : w.heap.size ≤ w0.heap.size := hB.size
  go_upto_region 2 with (first | (refine wpList_load_part ?hw _ _ rfl _ 0 rfl _ _ v (qfn x.Q) (rb_q x) _ Try.underlying23 rfl ?hi ?_; (case hw => (first | rfl | (simp [Region.wanted, yielded]; done))); (case hi => (rw [qfn_size]; kernel_rfl))) | (refine wpList_load_part ?hw _ _ rfl _ 4 rfl _ _ v (vfn x.T) (rb_t x) _ Try.underlying25 rfl ?hi ?_; (case hw => (first | rfl | (simp [Region.wanted, yielded]; done))); (case hi => (rw [vfn_size]; kernel_rfl))) | (refine wpList_load_part ?hw _ _ rfl _ 7 rfl _ _ v (qfn x.h) (rb_h x) _ Try.underlying22 rfl ?hi ?_; (case hw => (first | rfl | (simp [Region.wanted, yielded]; done))); (case hi => (rw [qfn_size]; kernel_rfl))) | (go_at_call 32; with_reducible refine (NB.out _).mono ?_; rintro e w1 ⟨ob, rfl, o, hb⟩; replace hB := hB.trans (hb.mono hB.size); replace v := v.below hb v.lt; replace m := m.below hb m.lt; clear hb))
  clear NB cf
  have lt_v := v.lt
  have lt_m := m.lt
  have lt_o := o.lt
  have hW0 : w.heap.size ≤ w1.heap.size := by have := hB.size; first | exact this | simpa using this
  apply wp_region_Q 15 [0, 1, 3, 7, 15, 31, 63, 127, 255, 511, 1023, 2047, 4095, 8191, 16383] [12] [_, _, _, _, _, _, _, _, _, _, _, _, (fun p => .pointer (some ⟨p 12, 0, none⟩)), (fun _ => undef), _] (fun p L w' => w1.heap.size ≤ w'.heap.size ∧ Below w.heap.size w w' ∧ blk w' w.heap.size (rbc x) 27 ∧ blk w' (w.heap.size + 1) (rbc BSt.zero) 32 ∧ bod w0.heap.size ob w' (x) ∧ (L 12 = true → w1.heap.size ≤ p 12 ∧ blk w' (p 12) (bif L 13 then (rbc x) else (rbc BSt.zero)) 32)) _ [(0, 22), (1, 23), (2, 24), (3, 25), (4, 26), (5, 27), (6, 28), (7, 29), (8, 30), (9, 21), (10, 31), (11, 32), (12, 7), (14, 8)] [0, 1, 2, 3, 4, 5, 6, 7, 8, 9, 10, 11, 12, 13, 14]
  case hn => rfl
  case hB => kernel_rfl
  case hds => kernel_rfl
  case hA => (intro p; simp only [putsD, Act.put, List.setIfInBounds_toArray, List.set_cons_zero, List.set_cons_succ, List.getD_cons_zero, List.getD_cons_succ]; exact rfl)
  case h0 => exact fun p => ⟨Nat.le_refl _, hB, v, m, o, fun h => absurd h (by decide)⟩
  case hmore => exact fun p L w1 w2 ⟨hsz, hB, v, m, o, h_r⟩ hm => ⟨Nat.le_trans hsz hm.size, hB.trans (hm.mono (Nat.le_trans hW0 hsz)), v.below hm v.lt, m.below hm m.lt, o.below hm o.lt, fun hl => ⟨(h_r hl).1, (h_r hl).2.below hm (h_r hl).2.lt⟩⟩
  case hs =>
    intro more
    refine stepV 0 rfl rfl (fun _ _ _ h => h) ?_ ?_
    · intros; go_simp; exact ⟨rfl, rfl⟩
    refine stepV 1 rfl rfl (fun _ _ _ h => h) ?_ ?_
    · rintro p L w1 ⟨hsz, hB, v, m, o, h_r⟩ hk
      have L13 : L 13 = false := hk.2.2 13 rfl
      exact valR_part _ _ rfl _ 0 rfl _ _ v (qfn x.Q) (rb_q x) _ Try.underlying23 rfl (by rw [qfn_size]; kernel_rfl) rfl
    refine stepV 2 rfl rfl (fun _ _ _ h => h) ?_ ?_
    · intros; go_simp; exact ⟨rfl, rfl⟩
    refine stepV 3 rfl rfl (fun _ _ _ h => h) ?_ ?_
    · rintro p L w1 ⟨hsz, hB, v, m, o, h_r⟩ hk
      have L13 : L 13 = false := hk.2.2 13 rfl
      exact valR_part _ _ rfl _ 4 rfl _ _ v (vfn x.T) (rb_t x) _ Try.underlying25 rfl (by rw [vfn_size]; kernel_rfl) rfl
    refine stepV 4 rfl rfl (fun _ _ _ h => h) ?_ ?_
    · intros; go_simp; exact ⟨rfl, rfl⟩
    refine stepV 5 rfl rfl (fun _ _ _ h => h) ?_ ?_
    · rintro p L w1 ⟨hsz, hB, v, m, o, h_r⟩ hk
      have L13 : L 13 = false := hk.2.2 13 rfl
      exact valR_part _ _ rfl _ 7 rfl _ _ v (qfn x.h) (rb_h x) _ Try.underlying22 rfl (by rw [qfn_size]; kernel_rfl) rfl
    refine stepV 6 rfl rfl (fun _ _ _ h => h) ?_ ?_
    · intros; go_simp; exact ⟨rfl, rfl⟩
    refine stepV 7 rfl rfl (fun _ _ _ h => h) ?_ ?_
    · rintro p L w1 ⟨hsz, hB, v, m, o, h_r⟩ hk
      have L13 : L 13 = false := hk.2.2 13 rfl
      have hc : w1.cell? ⟨w.heap.size, 11, none⟩ = some (.int .i64 x.f) := v.cellIs rfl
      go_simp
      exact ⟨rfl, rfl⟩
    refine stepD 8 rfl (fun p => rfl) (fun _ _ _ h => h) more ?_ ?_
    · rintro p L w1 ⟨hsz, hB, v, m, o, h_r⟩ hk
      go_simp
      refine (NR.out _).mono ?_
      rintro e w2 ⟨rfl, h2⟩
      first | exact ⟨rfl, h2⟩ | (subst h2; exact ⟨rfl, Below.refl _ _⟩)
    refine stepV 9 rfl rfl (fun _ _ _ h => h) ?_ ?_
    · intros; go_simp; exact ⟨rfl, rfl⟩
    refine stepV 10 rfl rfl (fun _ _ _ h => h) ?_ ?_
    · intros; go_simp; exact ⟨rfl, rfl⟩
    refine stepV 11 rfl rfl (fun _ _ _ h => h) ?_ ?_
    · intros; go_simp; exact ⟨rfl, rfl⟩
    refine AllI.cons ?_ ?_
    · refine stepI_alloc 12 rfl (fun p => rfl) rfl (rbc BSt.zero) 32 (fun p => rfl) ?_ ?_
      · intro p w1
        go_simp
        first | rfl | rw [rbc_zero]
      rintro p L w1 ⟨hsz, hB, v, m, o, h_r⟩ hk
      have L13 : L 13 = false := hk.2.2 13 rfl
      refine ⟨Nat.le_trans hsz (by simp), hB.alloc (Nat.le_trans (by first | exact hW0 | (have := hB.size; simp at this ⊢; omega)) hsz) _, v.alloc _, m.alloc _, o.alloc _, fun _ => ⟨hsz, ?_⟩⟩
      rw [show upL L 12 13 = false from L13]
      exact blk.new _ _ _
    refine AllI.cons ?_ ?_
    · refine stepI_store 13 rfl (fun p => rfl) (fun p => rfl) _ _ _ rfl (fun p => p 12) 0 (fun p => rfl) (fun p => (rbc x)) (fun p => rfl) (fun p => (rbc BSt.zero)) (fun p => (rbc x)) 32 (fun p => over_rr _ _) (fun p => by first | (rw [rbc_size, rbc_size]; decide) | simp [rbc_size, rbc_size]) (fun p => by rw [rbc_size]; kernel_rfl) (fun p => rbc_one _) ?_ ?_
      · rintro p L w1 ⟨hsz, hB, v, m, o, h_r⟩ hk
        have L13 : L 13 = false := hk.1
        have hh := (h_r (hk.2.1 12 rfl)).2
        rw [L13] at hh
        try simp only [cond_true, cond_false] at hh
        exact hh
      · rintro p L w1 ⟨hsz, hB, v, m, o, h_r⟩ hk
        have L13 : L 13 = false := hk.1
        skip
        have hp := h_r (hk.2.1 12 rfl)
        refine ⟨(by simpa using hsz), Below.setRow hB (by first | exact Nat.le_trans hW0 hp.1 | exact ge_r | omega | (have := hB.size; simp at this ⊢; omega)) _, v.rowOther (by first | exact Nat.ne_of_lt (Nat.lt_of_lt_of_le lt_v hp.1) | omega) _, m.rowOther (by first | exact Nat.ne_of_lt (Nat.lt_of_lt_of_le lt_m hp.1) | omega) _, o.rowOther (.inr (Nat.lt_of_lt_of_le lt_o hp.1)) _, fun _ => ⟨hp.1, ?_⟩⟩
        rw [show upL L 13 13 = true from rfl]
        exact hp.2.row _
    refine stepV 14 rfl rfl (fun _ _ _ h => h) ?_ ?_
    · intros; go_simp; exact ⟨rfl, rfl⟩
    exact AllI.nil
  case hV0 =>
    intro p q
    refine AllI.cons ?_ ?_
    · skip
      iterate 15 (refine AllI.cons (by first | exact .inl rfl | (refine .inr ?_; simp only [List.getD_cons_zero, List.getD_cons_succ]; done) | exact .inr rfl) ?_)
      exact AllI.nil
    exact AllI.nil
  case he =>
  clear hB v m o
  rintro p w1r ⟨hsz, hB, v, m, o, h_r⟩
  obtain ⟨le_r, r⟩ := h_r rfl
  clear h_r
  replace r : blk w1r (p 12) (rbc x) 32 := r
  have ne_v_r : w.heap.size ≠ p 12 := Nat.ne_of_lt (Nat.lt_of_lt_of_le lt_v le_r)
  have ne_m_r : (w.heap.size + 1) ≠ p 12 := Nat.ne_of_lt (Nat.lt_of_lt_of_le lt_m le_r)
  have ne_o_r : ob ≠ p 12 := Nat.ne_of_lt (Nat.lt_of_lt_of_le lt_o le_r)
  have ge_r : w.heap.size ≤ p 12 := Nat.le_trans hW0 le_r
  have out_r : ob < p 12 := Nat.lt_of_lt_of_le lt_o le_r
  generalize p 12 = r_b at *
  clear lt_v
  clear lt_m
  clear lt_o
  clear hsz hW0
  go_upto_region 3 with (fail)
  have lt_v := v.lt
  have lt_m := m.lt
  have lt_o := o.lt
  have lt_r := r.lt
  have hW0 : w.heap.size ≤ w1r.heap.size := by have := hB.size; first | exact this | simpa using this
  apply wp_region_I 15 [0, 0, 0, 0, 12, 28, 60, 124, 60, 316, 1020, 2044, 61, 4159, 16383] [] [_, _, _, _, _, _, _, _, _, _, _, _, _, (fun _ => undef), _] (fun p L w' => w1r.heap.size ≤ w'.heap.size ∧ Below w.heap.size w w' ∧ blk w' w.heap.size (rbc x) 27 ∧ blk w' (w.heap.size + 1) (bif L 13 then (rbc x) else (rbc BSt.zero)) 32 ∧ bod w0.heap.size ob w' (x) ∧ blk w' r_b (rbc x) 32) _ [(0, 33), (1, 34), (2, 35), (3, 36), (4, 37), (5, 38), (6, 39), (7, 40), (8, 41), (9, 42), (10, 43), (11, 44), (12, 2), (14, 4)] [0, 1, 2, 3, 4, 5, 6, 7, 8, 9, 10, 11, 12, 13, 14]
  case hn => rfl
  case hm => kernel_rfl
  case hB => kernel_rfl
  case hds => kernel_rfl
  case hA => (intro p; simp only [putsD, Act.put, List.setIfInBounds_toArray, List.set_cons_zero, List.set_cons_succ, List.getD_cons_zero, List.getD_cons_succ]; exact rfl)
  case h0 => exact fun p => ⟨Nat.le_refl _, hB.drew, v.drew, m.drew, o.drew, r.drew⟩
  case hmore => exact fun p L w1 w2 ⟨hsz, hB, v, m, o, r⟩ hm => ⟨Nat.le_trans hsz hm.size, hB.trans (hm.mono (Nat.le_trans hW0 hsz)), v.below hm v.lt, m.below hm m.lt, o.below hm o.lt, r.below hm r.lt⟩
  case hs =>
    intro more
    refine stepV 0 rfl rfl (fun _ _ _ h => h) ?_ ?_
    · intros; go_simp; exact ⟨rfl, rfl⟩
    refine stepV 1 rfl rfl (fun _ _ _ h => h) ?_ ?_
    · rintro p L w1 ⟨hsz, hB, v, m, o, r⟩ hk
      have L13 : L 13 = false := hk.2.2 13 rfl
      first | exact valR_row _ _ rfl _ rfl _ _ r _ Try.underlying32 rfl (by first | kernel_rfl | (rw [rbc_size]; kernel_rfl)) rfl | (have hc := r.cellIs (show _[0]? = some _ from rfl); go_simp; exact ⟨rfl, rfl⟩)
    refine stepV 2 rfl rfl (fun _ _ _ h => h) ?_ ?_
    · intros; go_simp; exact ⟨rfl, rfl⟩
    refine stepV 3 rfl rfl (fun _ _ _ h => h) ?_ ?_
    · intros; go_simp; exact ⟨rfl, rfl⟩
    refine stepV 4 rfl rfl (fun _ _ _ h => h) ?_ ?_
    · intros; go_simp; exact ⟨rfl, rfl⟩
    refine stepV 5 rfl rfl (fun _ _ _ h => h) ?_ ?_
    · intros; go_simp; exact ⟨rfl, rfl⟩
    refine stepVg 6 rfl (fun p => (by first | rfl | (simp [Region.wanted, yielded]; done))) (fun _ _ _ h => h) ?_ ?_
    · intros; go_simp; exact ⟨rfl, rfl⟩
    refine stepVg 7 rfl (fun p => (by first | rfl | (simp [Region.wanted, yielded]; done))) (fun _ _ _ h => h) ?_ ?_
    · intros; go_simp; exact ⟨rfl, rfl⟩
    refine stepVg 8 rfl (fun p => (by first | rfl | (simp [Region.wanted, yielded]; done))) (fun _ _ _ h => h) ?_ ?_
    · intros; go_simp; exact ⟨rfl, rfl⟩
    refine stepVg 9 rfl (fun p => (by first | rfl | (simp [Region.wanted, yielded]; done))) (fun _ _ _ h => h) ?_ ?_
    · intros; go_simp; exact ⟨rfl, rfl⟩
    refine stepVg 10 rfl (fun p => (by first | rfl | (simp [Region.wanted, yielded]; done))) (fun _ _ _ h => h) ?_ ?_
    · intros; go_simp; exact ⟨rfl, rfl⟩
    refine stepV 11 rfl rfl (fun _ _ _ h => h) ?_ ?_
    · intros; go_simp; exact ⟨rfl, rfl⟩
    refine stepV 12 rfl rfl (fun _ _ _ h => h) ?_ ?_
    · intros; go_simp; exact ⟨rfl, rfl⟩
    refine AllI.cons ?_ ?_
    · refine stepI_store 13 rfl (fun p => rfl) (fun p => rfl) _ _ _ rfl (fun _ => (w.heap.size + 1)) 0 (fun p => rfl) (fun p => (rbc x)) (fun p => rfl) (fun p => (rbc BSt.zero)) (fun p => (rbc x)) 32 (fun p => over_rr _ _) (fun p => by first | (rw [rbc_size, rbc_size]; decide) | simp [rbc_size, rbc_size]) (fun p => by rw [rbc_size]; kernel_rfl) (fun p => rbc_one _) ?_ ?_
      · rintro p L w1 ⟨hsz, hB, v, m, o, r⟩ hk
        have L13 : L 13 = false := hk.1
        rw [L13] at m
        try simp only [cond_true, cond_false] at m
        exact m
      · rintro p L w1 ⟨hsz, hB, v, m, o, r⟩ hk
        have L13 : L 13 = false := hk.1
        skip
        refine ⟨(by simpa using hsz), Below.setRow hB (by first | exact Nat.le_trans hW0 hp.1 | exact ge_m | omega | (have := hB.size; simp at this ⊢; omega)) _, v.rowOther (by first | exact ne_v_m | exact Ne.symm ne_m_v | omega) _, ?_, o.rowOther (by first | exact .inr out_m | exact .inl out_m | omega) _, r.rowOther (by first | exact ne_r_m | exact Ne.symm ne_m_r | omega) _⟩
        rw [show upL L 13 13 = true from rfl]
        exact m.row _
    refine stepV 14 rfl rfl (fun _ _ _ h => h) ?_ ?_
    · intros; go_simp; exact ⟨rfl, rfl⟩
    exact AllI.nil
  case hV0 => exact fun p q => AllI.nil
  case he =>
  clear hB v m o r
  rintro p w1rr ⟨hsz, hB, v, m, o, r⟩
  replace m : blk w1rr (w.heap.size + 1) (rbc x) 32 := m
  clear lt_v
  clear lt_m
  clear lt_o
  clear lt_r
  clear hsz hW0
  go_wp2_with (fail)
  refine bodyPost_ret (results_tct rfl _ _ _ _ _ _ _ rfl m Try.underlying32 rfl (by first | kernel_rfl | (rw [rbc_size]; kernel_rfl))) rfl ?_
  exact ⟨ob, rfl, (let ⟨s, l, u, k, j⟩ := o; ⟨s, Nat.le_trans hlo l, u, k, j⟩), hB⟩
set_option maxRecDepth 100000 in
set_option maxHeartbeats 4000000 in
theorem bsees_no (x : BSt) (u : Nat → Int) (w : World) (hQ : ∀ i, i < 4 → I64 (x.Q i)) (hk : newOk x = false) : Calls Try.prog 3 #[.agg (rbc x), .agg (vfn u)] w fun e w' => e = .returned (.bool true) ∧ Below w.heap.size w w' := by
  have MA := Lib.hid (fun w => made_no x w hQ hk)
  clear hQ hk
  have AW := Lib.hid (fun w => awake24_any w)
  go_enter Try.func3, Try.ntmps3
  go_upto_region 1 with (fail)
  have v : blk ((w.alloc (.cells (rbc x) 27)).alloc (.cells (vfn u) 25)) w.heap.size (rbc x) 27 := (blk.new _ _ _).alloc _
  have z : blk ((w.alloc (.cells (rbc x) 27)).alloc (.cells (vfn u) 25)) (w.heap.size + 1) (vfn u) 25 := blk.new' (by simp)
  have hB : Below w.heap.size w ((w.alloc (.cells (rbc x) 27)).alloc (.cells (vfn u) 25)) := by go_grown
  generalize ((w.alloc (.cells (rbc x) 27)).alloc (.cells (vfn u) 25)) = w0 at *
  have lt_v := v.lt
  have lt_z := z.lt
  have hW0 : w.heap.size ≤ w0.heap.size := by have := hB.size; first | exact this | simpa using this
  apply wp_region_Q 10 [0, 1, 3, 7, 15, 31, 63, 127, 255, 511] [6] [_, _, _, _, _, _, (fun p => .pointer (some ⟨p 6, 0, none⟩)), _, (fun _ => undef), _] (fun p L w' => w0.heap.size ≤ w'.heap.size ∧ Below w.heap.size w w' ∧ blk w' w.heap.size (rbc x) 27 ∧ blk w' (w.heap.size + 1) (vfn u) 25 ∧ (L 6 = true → w0.heap.size ≤ p 6 ∧ blk w' (p 6) (bif L 8 then (rbc BSt.zero) else (rbc BSt.zero)) 32)) _ [(0, 13), (1, 14), (2, 12), (3, 15), (4, 16), (5, 17), (6, 6), (7, 5), (9, 7)] [0, 1, 2, 3, 4, 5, 6, 7, 8, 9]
  case hn => rfl
  case hB => kernel_rfl
  case hds => kernel_rfl
  case hA => (intro p; simp only [putsD, Act.put, List.setIfInBounds_toArray, List.set_cons_zero, List.set_cons_succ, List.getD_cons_zero, List.getD_cons_succ]; exact rfl)
  case h0 => exact fun p => ⟨Nat.le_refl _, hB, v, z, fun h => absurd h (by decide)⟩
  case hmore => exact fun p L w1 w2 ⟨hsz, hB, v, z, h_r⟩ hm => ⟨Nat.le_trans hsz hm.size, hB.trans (hm.mono (Nat.le_trans hW0 hsz)), v.below hm v.lt, z.below hm z.lt, fun hl => ⟨(h_r hl).1, (h_r hl).2.below hm (h_r hl).2.lt⟩⟩
  case hs =>
    intro more
    refine stepV 0 rfl rfl (fun _ _ _ h => h) ?_ ?_
    · rintro p L w1 ⟨hsz, hB, v, z, h_r⟩ hk
      have L8 : L 8 = false := hk.2.2 8 rfl
      exact valR_part _ _ rfl _ 0 rfl _ _ v (rbc x) (act_0 x) _ Try.underlying27 rfl (by rw [rbc_size]; kernel_rfl) rfl
    refine stepD 1 rfl (fun p => rfl) (fun _ _ _ h => h) more ?_ ?_
    · rintro p L w1 ⟨hsz, hB, v, z, h_r⟩ hk
      go_simp
      refine (MA.out _).mono ?_
      rintro e w2 ⟨rfl, h2⟩
      first | exact ⟨rfl, h2⟩ | (subst h2; exact ⟨rfl, Below.refl _ _⟩)
    refine stepV 2 rfl rfl (fun _ _ _ h => h) ?_ ?_
    · intros; go_simp; exact ⟨rfl, rfl⟩
    refine stepV 3 rfl rfl (fun _ _ _ h => h) ?_ ?_
    · intros; go_simp; exact ⟨rfl, rfl⟩
    refine stepV 4 rfl rfl (fun _ _ _ h => h) ?_ ?_
    · intros; go_simp; exact ⟨rfl, rfl⟩
    refine stepV 5 rfl rfl (fun _ _ _ h => h) ?_ ?_
    · intros; go_simp; exact ⟨rfl, rfl⟩
    refine AllI.cons ?_ ?_
    · refine stepI_alloc 6 rfl (fun p => rfl) rfl (rbc BSt.zero) 32 (fun p => rfl) ?_ ?_
      · intro p w1
        go_simp
        first | rfl | rw [rbc_zero]
      rintro p L w1 ⟨hsz, hB, v, z, h_r⟩ hk
      have L8 : L 8 = false := hk.2.2 8 rfl
      refine ⟨Nat.le_trans hsz (by simp), hB.alloc (Nat.le_trans (by first | exact hW0 | (have := hB.size; simp at this ⊢; omega)) hsz) _, v.alloc _, z.alloc _, fun _ => ⟨hsz, ?_⟩⟩
      rw [show upL L 6 8 = false from L8]
      exact blk.new _ _ _
    refine stepV 7 rfl rfl (fun _ _ _ h => h) ?_ ?_
    · intros; go_simp; exact ⟨rfl, rfl⟩
    refine AllI.cons ?_ ?_
    · refine stepI_store 8 rfl (fun p => rfl) (fun p => rfl) _ _ _ rfl (fun p => p 6) 0 (fun p => rfl) (fun p => (rbc BSt.zero)) (fun p => rfl) (fun p => (rbc BSt.zero)) (fun p => (rbc BSt.zero)) 32 (fun p => over_rr _ _) (fun p => by first | (rw [rbc_size, rbc_size]; decide) | simp [rbc_size, rbc_size]) (fun p => by rw [rbc_size]; kernel_rfl) (fun p => rbc_one _) ?_ ?_
      · rintro p L w1 ⟨hsz, hB, v, z, h_r⟩ hk
        have L8 : L 8 = false := hk.1
        have hh := (h_r (hk.2.1 6 rfl)).2
        rw [L8] at hh
        try simp only [cond_true, cond_false] at hh
        exact hh
      · rintro p L w1 ⟨hsz, hB, v, z, h_r⟩ hk
        have L8 : L 8 = false := hk.1
        skip
        have hp := h_r (hk.2.1 6 rfl)
        refine ⟨(by simpa using hsz), Below.setRow hB (by first | exact Nat.le_trans hW0 hp.1 | exact ge_r | omega | (have := hB.size; simp at this ⊢; omega)) _, v.rowOther (by first | exact Nat.ne_of_lt (Nat.lt_of_lt_of_le lt_v hp.1) | omega) _, z.rowOther (by first | exact Nat.ne_of_lt (Nat.lt_of_lt_of_le lt_z hp.1) | omega) _, fun _ => ⟨hp.1, ?_⟩⟩
        rw [show upL L 8 8 = true from rfl]
        exact hp.2.row _
    refine stepV 9 rfl rfl (fun _ _ _ h => h) ?_ ?_
    · intros; go_simp; exact ⟨rfl, rfl⟩
    exact AllI.nil
  case hV0 =>
    intro p q
    refine AllI.cons ?_ ?_
    · skip
      iterate 10 (refine AllI.cons (by first | exact .inl rfl | (refine .inr ?_; simp only [List.getD_cons_zero, List.getD_cons_succ]; done) | exact .inr rfl) ?_)
      exact AllI.nil
    exact AllI.nil
  case he =>
  clear hB v z
  rintro p w0r ⟨hsz, hB, v, z, h_r⟩
  obtain ⟨le_r, r⟩ := h_r rfl
  clear h_r
  replace r : blk w0r (p 6) (rbc BSt.zero) 32 := r
  have ne_v_r : w.heap.size ≠ p 6 := Nat.ne_of_lt (Nat.lt_of_lt_of_le lt_v le_r)
  have ne_z_r : (w.heap.size + 1) ≠ p 6 := Nat.ne_of_lt (Nat.lt_of_lt_of_le lt_z le_r)
  have ge_r : w.heap.size ≤ p 6 := Nat.le_trans hW0 le_r
  generalize p 6 = r_b at *
  clear lt_v
  clear lt_z
  clear hsz hW0
  go_wp2_with (first
    | (go_at_call 16; with_reducible refine (AW.out _).mono ?_; rintro e w9 ⟨rfl, hb⟩; replace hB := hB.trans (hb.mono hB.size); replace v := v.below hb v.lt; replace z := z.below hb z.lt; replace r := r.below hb r.lt; clear hb))
  go_ret
  exact ⟨rfl, hB⟩
set_option maxRecDepth 100000 in
set_option maxHeartbeats 4000000 in
theorem bsees_yes (x : BSt) (u : Nat → Int) (w : World) (hQ : ∀ i, i < 4 → I64 (x.Q i)) (hk : newOk x = true) : Calls Try.prog 3 #[.agg (rbc x), .agg (vfn u)] w fun e w' => e = .returned (.bool true) ∧ Below w.heap.size w w' := by
  have MA := Lib.hid (fun w => made_yes x w hQ hk)
  have SE := Lib.hid (fun w lo b (h : bod lo b w x) => bsee_any x lo b u w h hQ)
  have RB := Lib.hid (fun w => rqback_any x.Q u w hQ)
  clear hQ hk
  have AW := Lib.hid (fun w => awake24_any w)
  have E1 := vec_eq_self (qbackF x.Q u)
  go_enter Try.func3, Try.ntmps3
  go_upto_region 1 with (fail)
  have v : blk ((w.alloc (.cells (rbc x) 27)).alloc (.cells (vfn u) 25)) w.heap.size (rbc x) 27 := (blk.new _ _ _).alloc _
  have z : blk ((w.alloc (.cells (rbc x) 27)).alloc (.cells (vfn u) 25)) (w.heap.size + 1) (vfn u) 25 := blk.new' (by simp)
  have hB : Below w.heap.size w ((w.alloc (.cells (rbc x) 27)).alloc (.cells (vfn u) 25)) := by go_grown
  generalize ((w.alloc (.cells (rbc x) 27)).alloc (.cells (vfn u) 25)) = w0 at *
  have out_v := v.lt
  have out_z := z.lt
  have hlo : w.heap.size ≤ w0.heap.size := hB.size
  go_upto_region 2 with (first | (refine wpList_load_rowG ?hw _ _ rfl _ rfl _ _ _ _ v Try.underlying27 rfl ?hi ?_; (case hw => (first | rfl | (simp [Region.wanted, yielded]; done))); (case hi => (first | kernel_rfl | (rw [rbc_size]; kernel_rfl)))) | (go_at_call 15; with_reducible refine (MA.out _).mono ?_; rintro e w1 ⟨ob, rfl, o, hb⟩; replace hB := hB.trans (hb.mono hB.size); replace v := v.below hb v.lt; replace z := z.below hb z.lt; clear hb) | (rw [rbc_zero]; refine wpList_store_row rfl _ _ _ rfl _ rfl _ rfl _ _ (blk.new _ _ _) (by first | kernel_rfl | (rw [rbc_size]; kernel_rfl)) (by first | rfl | simp only [rbc_size]) (by first | exact rbc_one _ | rfl) ?_))
  have r := (blk.new w1 (rbc BSt.zero) 32).row (rbc x)
  replace hB := Below.setRow (hB.alloc hB.size (.cells (rbc BSt.zero) 32)) (g := w1.heap.size) hB.size (rbc x)
  have hne : ∀ x, x < w1.heap.size → x ≠ w1.heap.size := fun x hx => Nat.ne_of_lt hx
  have out_r : ob < w1.heap.size := o.lt
  replace v := (v.alloc (.cells (rbc BSt.zero) 32)).rowOther (hne _ v.lt) (rbc x)
  replace z := (z.alloc (.cells (rbc BSt.zero) 32)).rowOther (hne _ z.lt) (rbc x)
  replace o := (o.alloc (.cells (rbc BSt.zero) 32)).rowOther (.inr o.lt) (rbc x)
  clear hne
  generalize (w1.alloc (.cells (rbc BSt.zero) 32)).setRow w1.heap.size (rbc x) = w1x at *
  generalize w1.heap.size = r_b at *
  go_upto_region 6 with (fail)
  have lt_v := v.lt
  have lt_z := z.lt
  have lt_o := o.lt
  have lt_r := r.lt
  have hW0 : w.heap.size ≤ w1x.heap.size := by have := hB.size; first | exact this | simpa using this
  apply wp_region_Q 9 [0, 1, 3, 7, 15, 31, 63, 127, 255] [6] [_, _, _, _, _, _, (fun p => .pointer (some ⟨p 6, 0, none⟩)), (fun _ => undef), _] (fun p L w' => w1x.heap.size ≤ w'.heap.size ∧ Below w.heap.size w w' ∧ blk w' w.heap.size (rbc x) 27 ∧ blk w' (w.heap.size + 1) (vfn u) 25 ∧ bod w0.heap.size ob w' (x) ∧ blk w' r_b (rbc x) 32 ∧ (L 6 = true → w1x.heap.size ≤ p 6 ∧ blk w' (p 6) (bif L 7 then (vfn (qbackF x.Q u)) else (vfn fun _ => 0)) 25)) _ [(0, 24), (1, 25), (2, 26), (3, 23), (4, 27), (5, 28), (6, 8), (8, 9)] [0, 1, 2, 3, 4, 5, 6, 7, 8]
  case hn => rfl
  case hB => kernel_rfl
  case hds => kernel_rfl
  case hA => (intro p; simp only [putsD, Act.put, List.setIfInBounds_toArray, List.set_cons_zero, List.set_cons_succ, List.getD_cons_zero, List.getD_cons_succ]; exact rfl)
  case h0 => exact fun p => ⟨Nat.le_refl _, hB, v, z, o, r, fun h => absurd h (by decide)⟩
  case hmore => exact fun p L w1 w2 ⟨hsz, hB, v, z, o, r, h_a⟩ hm => ⟨Nat.le_trans hsz hm.size, hB.trans (hm.mono (Nat.le_trans hW0 hsz)), v.below hm v.lt, z.below hm z.lt, o.below hm o.lt, r.below hm r.lt, fun hl => ⟨(h_a hl).1, (h_a hl).2.below hm (h_a hl).2.lt⟩⟩
  case hs =>
    intro more
    refine stepV 0 rfl rfl (fun _ _ _ h => h) ?_ ?_
    · intros; go_simp; exact ⟨rfl, rfl⟩
    refine stepV 1 rfl rfl (fun _ _ _ h => h) ?_ ?_
    · rintro p L w1 ⟨hsz, hB, v, z, o, r, h_a⟩ hk
      have L7 : L 7 = false := hk.2.2 7 rfl
      first | exact valR_row _ _ rfl _ rfl _ _ z _ Try.underlying25 rfl (by first | kernel_rfl | (rw [vfn_size]; kernel_rfl)) rfl | (have hc := z.cellIs (vfn_get _ (show 0 < 3 by omega)); go_simp; exact ⟨rfl, rfl⟩)
    refine stepD 2 rfl (fun p => rfl) (fun _ _ _ h => h) more ?_ ?_
    · rintro p L w1 ⟨hsz, hB, v, z, o, r, h_a⟩ hk
      have L7 : L 7 = false := hk.2.2 7 rfl
      go_simp
      refine (SE.out _ _ _ o).mono ?_
      rintro e w2 ⟨rfl, h2⟩
      first | exact ⟨rfl, h2⟩ | (subst h2; exact ⟨rfl, Below.refl _ _⟩)
    refine stepV 3 rfl rfl (fun _ _ _ h => h) ?_ ?_
    · intros; go_simp; exact ⟨rfl, rfl⟩
    refine stepV 4 rfl rfl (fun _ _ _ h => h) ?_ ?_
    · intros; go_simp; exact ⟨rfl, rfl⟩
    refine stepV 5 rfl rfl (fun _ _ _ h => h) ?_ ?_
    · intros; go_simp; exact ⟨rfl, rfl⟩
    refine AllI.cons ?_ ?_
    · refine stepI_alloc 6 rfl (fun p => rfl) rfl (vfn fun _ => 0) 25 (fun p => rfl) ?_ ?_
      · intro p w1
        go_simp
        first | rfl | rw [zero_vec]
      rintro p L w1 ⟨hsz, hB, v, z, o, r, h_a⟩ hk
      have L7 : L 7 = false := hk.2.2 7 rfl
      refine ⟨Nat.le_trans hsz (by simp), hB.alloc (Nat.le_trans (by first | exact hW0 | (have := hB.size; simp at this ⊢; omega)) hsz) _, v.alloc _, z.alloc _, o.alloc _, r.alloc _, fun _ => ⟨hsz, ?_⟩⟩
      rw [show upL L 6 7 = false from L7]
      exact blk.new _ _ _
    refine AllI.cons ?_ ?_
    · refine stepI_store 7 rfl (fun p => rfl) (fun p => rfl) _ _ _ rfl (fun p => p 6) 0 (fun p => rfl) (fun p => (vfn (qbackF x.Q u))) (fun p => rfl) (fun p => (vfn fun _ => 0)) (fun p => (vfn (qbackF x.Q u))) 25 (fun p => over_v _ _) (fun p => by first | (rw [vfn_size, vfn_size]; decide) | simp [vfn_size, vfn_size]) (fun p => by rw [vfn_size]; kernel_rfl) (fun p => vfn_one _) ?_ ?_
      · rintro p L w1 ⟨hsz, hB, v, z, o, r, h_a⟩ hk
        have L7 : L 7 = false := hk.1
        have hh := (h_a (hk.2.1 6 rfl)).2
        rw [L7] at hh
        try simp only [cond_true, cond_false] at hh
        exact hh
      · rintro p L w1 ⟨hsz, hB, v, z, o, r, h_a⟩ hk
        have L7 : L 7 = false := hk.1
        skip
        have hp := h_a (hk.2.1 6 rfl)
        refine ⟨(by simpa using hsz), Below.setRow hB (by first | exact Nat.le_trans hW0 hp.1 | exact ge_a | omega | (have := hB.size; simp at this ⊢; omega)) _, v.rowOther (by first | exact Nat.ne_of_lt (Nat.lt_of_lt_of_le lt_v hp.1) | omega) _, z.rowOther (by first | exact Nat.ne_of_lt (Nat.lt_of_lt_of_le lt_z hp.1) | omega) _, o.rowOther (.inr (Nat.lt_of_lt_of_le lt_o hp.1)) _, r.rowOther (by first | exact Nat.ne_of_lt (Nat.lt_of_lt_of_le lt_r hp.1) | omega) _, fun _ => ⟨hp.1, ?_⟩⟩
        rw [show upL L 7 7 = true from rfl]
        exact hp.2.row _
    refine stepV 8 rfl rfl (fun _ _ _ h => h) ?_ ?_
    · intros; go_simp; exact ⟨rfl, rfl⟩
    exact AllI.nil
  case hV0 =>
    intro p q
    refine AllI.cons ?_ ?_
    · skip
      iterate 9 (refine AllI.cons (by first | exact .inl rfl | (refine .inr ?_; simp only [List.getD_cons_zero, List.getD_cons_succ]; done) | exact .inr rfl) ?_)
      exact AllI.nil
    exact AllI.nil
  case he =>
  clear hB v z o r
  rintro p w1xr ⟨hsz, hB, v, z, o, r, h_a⟩
  obtain ⟨le_a, a⟩ := h_a rfl
  clear h_a
  replace a : blk w1xr (p 6) (vfn (qbackF x.Q u)) 25 := a
  have ne_v_a : w.heap.size ≠ p 6 := Nat.ne_of_lt (Nat.lt_of_lt_of_le lt_v le_a)
  have ne_z_a : (w.heap.size + 1) ≠ p 6 := Nat.ne_of_lt (Nat.lt_of_lt_of_le lt_z le_a)
  have ne_o_a : ob ≠ p 6 := Nat.ne_of_lt (Nat.lt_of_lt_of_le lt_o le_a)
  have ne_r_a : r_b ≠ p 6 := Nat.ne_of_lt (Nat.lt_of_lt_of_le lt_r le_a)
  have ge_a : w.heap.size ≤ p 6 := Nat.le_trans hW0 le_a
  have out_a : ob < p 6 := Nat.lt_of_lt_of_le lt_o le_a
  generalize p 6 = a_b at *
  clear lt_v
  clear lt_z
  clear lt_o
  clear lt_r
  clear hsz hW0
  go_upto_region 7 with (fail)
  have lt_v := v.lt
  have lt_z := z.lt
  have lt_o := o.lt
  have lt_r := r.lt
  have lt_a := a.lt
  have hW0 : w.heap.size ≤ w1xr.heap.size := by have := hB.size; first | exact this | simpa using this
  apply wp_region_Q 10 [0, 1, 3, 7, 15, 31, 63, 127, 255, 511] [7] [_, _, _, _, _, _, _, (fun p => .pointer (some ⟨p 7, 0, none⟩)), (fun _ => undef), _] (fun p L w' => w1xr.heap.size ≤ w'.heap.size ∧ Below w.heap.size w w' ∧ blk w' w.heap.size (rbc x) 27 ∧ blk w' (w.heap.size + 1) (vfn u) 25 ∧ bod w0.heap.size ob w' (x) ∧ blk w' r_b (rbc x) 32 ∧ blk w' a_b (vfn (qbackF x.Q u)) 25 ∧ (L 7 = true → w1xr.heap.size ≤ p 7 ∧ blk w' (p 7) (bif L 8 then (vfn (qbackF x.Q u)) else (vfn fun _ => 0)) 25)) _ [(0, 30), (1, 31), (2, 32), (3, 33), (4, 29), (5, 34), (6, 35), (7, 10), (9, 11)] [0, 1, 2, 3, 4, 5, 6, 7, 8, 9]
  case hn => rfl
  case hB => kernel_rfl
  case hds => kernel_rfl
  case hA => (intro p; simp only [putsD, Act.put, List.setIfInBounds_toArray, List.set_cons_zero, List.set_cons_succ, List.getD_cons_zero, List.getD_cons_succ]; exact rfl)
  case h0 => exact fun p => ⟨Nat.le_refl _, hB, v, z, o, r, a, fun h => absurd h (by decide)⟩
  case hmore => exact fun p L w1 w2 ⟨hsz, hB, v, z, o, r, a, h_c⟩ hm => ⟨Nat.le_trans hsz hm.size, hB.trans (hm.mono (Nat.le_trans hW0 hsz)), v.below hm v.lt, z.below hm z.lt, o.below hm o.lt, r.below hm r.lt, a.below hm a.lt, fun hl => ⟨(h_c hl).1, (h_c hl).2.below hm (h_c hl).2.lt⟩⟩
  case hs =>
    intro more
    refine stepV 0 rfl rfl (fun _ _ _ h => h) ?_ ?_
    · intros; go_simp; exact ⟨rfl, rfl⟩
    refine stepV 1 rfl rfl (fun _ _ _ h => h) ?_ ?_
    · rintro p L w1 ⟨hsz, hB, v, z, o, r, a, h_c⟩ hk
      have L8 : L 8 = false := hk.2.2 8 rfl
      exact valR_part _ _ rfl _ 0 rfl _ _ r (qfn x.Q) (rb_q x) _ Try.underlying23 rfl (by rw [qfn_size]; kernel_rfl) rfl
    refine stepV 2 rfl rfl (fun _ _ _ h => h) ?_ ?_
    · rintro p L w1 ⟨hsz, hB, v, z, o, r, a, h_c⟩ hk
      have L8 : L 8 = false := hk.2.2 8 rfl
      first | exact valR_row _ _ rfl _ rfl _ _ z _ Try.underlying25 rfl (by first | kernel_rfl | (rw [vfn_size]; kernel_rfl)) rfl | (have hc := z.cellIs (vfn_get _ (show 0 < 3 by omega)); go_simp; exact ⟨rfl, rfl⟩)
    refine stepD 3 rfl (fun p => rfl) (fun _ _ _ h => h) more ?_ ?_
    · rintro p L w1 ⟨hsz, hB, v, z, o, r, a, h_c⟩ hk
      go_simp
      refine (RB.out _).mono ?_
      rintro e w2 ⟨rfl, h2⟩
      first | exact ⟨rfl, h2⟩ | (subst h2; exact ⟨rfl, Below.refl _ _⟩)
    refine stepV 4 rfl rfl (fun _ _ _ h => h) ?_ ?_
    · intros; go_simp; exact ⟨rfl, rfl⟩
    refine stepV 5 rfl rfl (fun _ _ _ h => h) ?_ ?_
    · intros; go_simp; exact ⟨rfl, rfl⟩
    refine stepV 6 rfl rfl (fun _ _ _ h => h) ?_ ?_
    · intros; go_simp; exact ⟨rfl, rfl⟩
    refine AllI.cons ?_ ?_
    · refine stepI_alloc 7 rfl (fun p => rfl) rfl (vfn fun _ => 0) 25 (fun p => rfl) ?_ ?_
      · intro p w1
        go_simp
        first | rfl | rw [zero_vec]
      rintro p L w1 ⟨hsz, hB, v, z, o, r, a, h_c⟩ hk
      have L8 : L 8 = false := hk.2.2 8 rfl
      refine ⟨Nat.le_trans hsz (by simp), hB.alloc (Nat.le_trans (by first | exact hW0 | (have := hB.size; simp at this ⊢; omega)) hsz) _, v.alloc _, z.alloc _, o.alloc _, r.alloc _, a.alloc _, fun _ => ⟨hsz, ?_⟩⟩
      rw [show upL L 7 8 = false from L8]
      exact blk.new _ _ _
    refine AllI.cons ?_ ?_
    · refine stepI_store 8 rfl (fun p => rfl) (fun p => rfl) _ _ _ rfl (fun p => p 7) 0 (fun p => rfl) (fun p => (vfn (qbackF x.Q u))) (fun p => rfl) (fun p => (vfn fun _ => 0)) (fun p => (vfn (qbackF x.Q u))) 25 (fun p => over_v _ _) (fun p => by first | (rw [vfn_size, vfn_size]; decide) | simp [vfn_size, vfn_size]) (fun p => by rw [vfn_size]; kernel_rfl) (fun p => vfn_one _) ?_ ?_
      · rintro p L w1 ⟨hsz, hB, v, z, o, r, a, h_c⟩ hk
        have L8 : L 8 = false := hk.1
        have hh := (h_c (hk.2.1 7 rfl)).2
        rw [L8] at hh
        try simp only [cond_true, cond_false] at hh
        exact hh
      · rintro p L w1 ⟨hsz, hB, v, z, o, r, a, h_c⟩ hk
        have L8 : L 8 = false := hk.1
        skip
        have hp := h_c (hk.2.1 7 rfl)
        refine ⟨(by simpa using hsz), Below.setRow hB (by first | exact Nat.le_trans hW0 hp.1 | exact ge_c | omega | (have := hB.size; simp at this ⊢; omega)) _, v.rowOther (by first | exact Nat.ne_of_lt (Nat.lt_of_lt_of_le lt_v hp.1) | omega) _, z.rowOther (by first | exact Nat.ne_of_lt (Nat.lt_of_lt_of_le lt_z hp.1) | omega) _, o.rowOther (.inr (Nat.lt_of_lt_of_le lt_o hp.1)) _, r.rowOther (by first | exact Nat.ne_of_lt (Nat.lt_of_lt_of_le lt_r hp.1) | omega) _, a.rowOther (by first | exact Nat.ne_of_lt (Nat.lt_of_lt_of_le lt_a hp.1) | omega) _, fun _ => ⟨hp.1, ?_⟩⟩
        rw [show upL L 8 8 = true from rfl]
        exact hp.2.row _
    refine stepV 9 rfl rfl (fun _ _ _ h => h) ?_ ?_
    · intros; go_simp; exact ⟨rfl, rfl⟩
    exact AllI.nil
  case hV0 =>
    intro p q
    refine AllI.cons ?_ ?_
    · skip
      iterate 10 (refine AllI.cons (by first | exact .inl rfl | (refine .inr ?_; simp only [List.getD_cons_zero, List.getD_cons_succ]; done) | exact .inr rfl) ?_)
      exact AllI.nil
    exact AllI.nil
  case he =>
  clear hB v z o r a
  rintro p w1xrr ⟨hsz, hB, v, z, o, r, a, h_c⟩
  obtain ⟨le_c, c⟩ := h_c rfl
  clear h_c
  replace c : blk w1xrr (p 7) (vfn (qbackF x.Q u)) 25 := c
  have ne_v_c : w.heap.size ≠ p 7 := Nat.ne_of_lt (Nat.lt_of_lt_of_le lt_v le_c)
  have ne_z_c : (w.heap.size + 1) ≠ p 7 := Nat.ne_of_lt (Nat.lt_of_lt_of_le lt_z le_c)
  have ne_o_c : ob ≠ p 7 := Nat.ne_of_lt (Nat.lt_of_lt_of_le lt_o le_c)
  have ne_r_c : r_b ≠ p 7 := Nat.ne_of_lt (Nat.lt_of_lt_of_le lt_r le_c)
  have ne_a_c : a_b ≠ p 7 := Nat.ne_of_lt (Nat.lt_of_lt_of_le lt_a le_c)
  have ge_c : w.heap.size ≤ p 7 := Nat.le_trans hW0 le_c
  have out_c : ob < p 7 := Nat.lt_of_lt_of_le lt_o le_c
  generalize p 7 = c_b at *
  clear lt_v
  clear lt_z
  clear lt_o
  clear lt_r
  clear lt_a
  clear hsz hW0
  go_wp2_with (first
    | (refine wpList_load_rowG ?hw _ _ rfl _ rfl _ _ _ _ a Try.underlying25 rfl ?hi ?_; (case hw => (first | rfl | (simp [Region.wanted, yielded]; done))); (case hi => (first | kernel_rfl | (rw [vfn_size]; kernel_rfl))))
    | (refine wpList_load_rowG ?hw _ _ rfl _ rfl _ _ _ _ c Try.underlying25 rfl ?hi ?_; (case hw => (first | rfl | (simp [Region.wanted, yielded]; done))); (case hi => (first | kernel_rfl | (rw [vfn_size]; kernel_rfl))))
    | (go_at_call 16; with_reducible refine (AW.out _).mono ?_; rintro e w9 ⟨rfl, hb⟩; replace hB := hB.trans (hb.mono hB.size); replace v := v.below hb v.lt; replace z := z.below hb z.lt; replace o := o.below hb o.lt; replace r := r.below hb r.lt; replace a := a.below hb a.lt; replace c := c.below hb c.lt; clear hb))
  go_ret
  exact ⟨rfl, hB⟩
theorem bsees_any (x : BSt) (u : Nat → Int) (w : World) (hQ : ∀ i, i < 4 → I64 (x.Q i)) : Calls Try.prog 3 #[.agg (rbc x), .agg (vfn u)] w fun e w' => e = .returned (.bool true) ∧ Below w.heap.size w w' := by
  cases hk : newOk x with
  | false => exact bsees_no x u w hQ hk
  | true => exact bsees_yes x u w hQ hk
end Go.Proofs.Ytjnocbjngojigaa
