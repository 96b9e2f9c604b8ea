/-
  Chapter 20: what the statements ask for first; StarsResiduals.
-/
import Derived.Test.YtkmelddejdikgaaSkK
set_option linter.unusedSimpArgs false
set_option linter.unusedVariables false
namespace Go.Proofs.Ytkmelddejdikgaa
open Go.RowKit PM Dt
def twoC : Array Value := sgc ⟨of3 1073741824 0 0, of3 1073741824 0 0, 1⟩ ++ sgc ⟨of3 0 1073741824 0, of3 0 1073741824 0, 1⟩
theorem two_el {w : World} {b : Nat} (h : blk w b twoC 36) : ElemsA w (some ⟨b, 0, none⟩) 2 7 (fun k => (sgc (stw_S k)).toList) := el_2 h rfl
set_option maxRecDepth 100000 in
set_option maxHeartbeats 6000000 in
theorem stwo_any  (w : World) : Calls Try.prog 14 #[] w fun e w' => ∃ b, e = .returned (.slice (some ⟨b, 0, none⟩) 2 2) ∧ blk w' b twoC 36 ∧ w.heap.size ≤ b ∧ Below w.heap.size w w' := by
  have hB : Below w.heap.size w w := Below.refl _ _
  go_enter Try.func14, Try.ntmps14
  go_upto_region 1 with (fail)
  have hW0 : w.heap.size ≤ w.heap.size := by have := hB.size; first | exact this | simpa using this
  apply wp_region_Q 6 [0, 1, 3, 7, 15, 31] [2, 3] [_, _, (fun p => .pointer (some ⟨p 2, 0, none⟩)), (fun p => .pointer (some ⟨p 3, 0, none⟩)), (fun _ => undef), (fun _ => undef)] (fun p L w' => w.heap.size ≤ w'.heap.size ∧ Below w.heap.size w w' ∧ (L 2 = true → w.heap.size ≤ p 2 ∧ blk w' (p 2) (bif L 4 then (vfn (of3 1073741824 0 0)) else (vfn fun _ => 0)) 31) ∧ (L 3 = true → w.heap.size ≤ p 3 ∧ blk w' (p 3) (bif L 5 then (vfn (of3 0 1073741824 0)) else (vfn fun _ => 0)) 31) ∧ (L 2 = true → L 3 = true → p 2 ≠ p 3)) _ [(0, 3), (1, 4), (2, 1), (3, 2)] [0, 1, 2, 3, 4, 5]
  case hn => rfl
  case hB => kernel_rfl
  case hds => kernel_rfl
  case hA => (intro p; simp only [putsD, Act.put, List.setIfInBounds_toArray, List.set_cons_zero, List.set_cons_succ, List.getD_cons_zero, List.getD_cons_succ]; exact rfl)
  case h0 => exact fun p => ⟨Nat.le_refl _, hB, fun h => absurd h (by decide), fun h => absurd h (by decide), fun h => absurd h (by decide)⟩
  case hmore => exact fun p L w1 w2 ⟨hsz, hB, h_x, h_y, hne_x_y⟩ hm => ⟨Nat.le_trans hsz hm.size, hB.trans (hm.mono (Nat.le_trans hW0 hsz)), fun hl => ⟨(h_x hl).1, (h_x hl).2.below hm (h_x hl).2.lt⟩, fun hl => ⟨(h_y hl).1, (h_y hl).2.below hm (h_y hl).2.lt⟩, hne_x_y⟩
  case hs =>
    intro more
    refine stepV 0 rfl rfl (fun _ _ _ h => h) ?_ ?_
    · intros; (try simp only [vfn, qfn]); go_simp; exact ⟨rfl, rfl⟩
    refine stepV 1 rfl rfl (fun _ _ _ h => h) ?_ ?_
    · intros; (try simp only [vfn, qfn]); go_simp; exact ⟨rfl, rfl⟩
    refine AllI.cons ?_ ?_
    · refine stepI_alloc 2 rfl (fun p => rfl) rfl (vfn fun _ => 0) 31 (fun p => rfl) ?_ ?_
      · intro p w1
        go_simp
        first | done | rfl | rw [zero_vec]
      rintro p L w1 ⟨hsz, hB, h_x, h_y, hne_x_y⟩ hk
      have L4 : L 4 = false := hk.2.2 4 rfl
      have L5 : L 5 = false := hk.2.2 5 rfl
      refine ⟨Nat.le_trans hsz (by simp), hB.alloc (Nat.le_trans (by first | exact hW0 | (have := hB.size; simp at this ⊢; omega)) hsz) _, fun _ => ⟨hsz, ?_⟩, fun hl => absurd hl (by rw [show upL L 2 3 = false from hk.2.2 3 rfl]; decide), fun _ hl => absurd hl (by rw [show upL L 2 3 = false from hk.2.2 3 rfl]; decide)⟩
      rw [show upL L 2 4 = false from L4]
      exact blk.new _ _ _
    refine AllI.cons ?_ ?_
    · refine stepI_alloc 3 rfl (fun p => rfl) rfl (vfn fun _ => 0) 31 (fun p => rfl) ?_ ?_
      · intro p w1
        go_simp
        first | done | rfl | rw [zero_vec]
      rintro p L w1 ⟨hsz, hB, h_x, h_y, hne_x_y⟩ hk
      have L4 : L 4 = false := hk.2.2 4 rfl
      have L5 : L 5 = false := hk.2.2 5 rfl
      refine ⟨Nat.le_trans hsz (by simp), hB.alloc (Nat.le_trans (by first | exact hW0 | (have := hB.size; simp at this ⊢; omega)) hsz) _, fun hl => ⟨(h_x hl).1, (h_x hl).2.alloc _⟩, fun _ => ⟨hsz, ?_⟩, fun hl _ => Nat.ne_of_lt (h_x hl).2.lt⟩
      rw [show upL L 3 5 = false from L5]
      exact blk.new _ _ _
    refine AllI.cons ?_ ?_
    · refine stepI_store 4 rfl (fun p => rfl) (fun p => rfl) _ _ _ rfl (fun p => p 2) 0 (fun p => rfl) (fun p => (vfn (of3 1073741824 0 0))) (fun p => congrArg Value.agg (of3_cells _ _ _)) (fun p => (vfn fun _ => 0)) (fun p => (vfn (of3 1073741824 0 0))) 31 (fun p => over_v' _ _) (fun p => by first | (rw [vfn_size, vfn_size]; decide) | simp [vfn_size, vfn_size]) (fun p => by rw [vfn_size]; kernel_rfl) (fun p => vfn_one _) ?_ ?_
      · rintro p L w1 ⟨hsz, hB, h_x, h_y, hne_x_y⟩ hk
        have L4 : L 4 = false := hk.1
        have L5 : L 5 = false := hk.2.2 5 rfl
        have hh := (h_x (hk.2.1 2 rfl)).2
        rw [L4] at hh
        try simp only [cond_true, cond_false] at hh
        exact hh
      · rintro p L w1 ⟨hsz, hB, h_x, h_y, hne_x_y⟩ hk
        have L4 : L 4 = false := hk.1
        have L5 : L 5 = false := hk.2.2 5 rfl
        skip
        have hp := h_x (hk.2.1 2 rfl)
        refine ⟨(by simpa using hsz), Below.setRow hB (by first | exact Nat.le_trans hW0 hp.1 | exact ge_x | omega | (have := hB.size; simp at this ⊢; omega)) _, fun _ => ⟨hp.1, ?_⟩, fun hl => ⟨(h_y hl).1, (h_y hl).2.rowOther (Ne.symm (hne_x_y (hk.2.1 2 rfl) hl)) _⟩, hne_x_y⟩
        rw [show upL L 4 4 = true from rfl]
        exact hp.2.row _
    refine AllI.cons ?_ ?_
    · refine stepI_store 5 rfl (fun p => rfl) (fun p => rfl) _ _ _ rfl (fun p => p 3) 0 (fun p => rfl) (fun p => (vfn (of3 0 1073741824 0))) (fun p => congrArg Value.agg (of3_cells _ _ _)) (fun p => (vfn fun _ => 0)) (fun p => (vfn (of3 0 1073741824 0))) 31 (fun p => over_v' _ _) (fun p => by first | (rw [vfn_size, vfn_size]; decide) | simp [vfn_size, vfn_size]) (fun p => by rw [vfn_size]; kernel_rfl) (fun p => vfn_one _) ?_ ?_
      · rintro p L w1 ⟨hsz, hB, h_x, h_y, hne_x_y⟩ hk
        have L4 : L 4 = true := hk.2.1 4 rfl
        have L5 : L 5 = false := hk.1
        have hh := (h_y (hk.2.1 3 rfl)).2
        rw [L5] at hh
        try simp only [cond_true, cond_false] at hh
        exact hh
      · rintro p L w1 ⟨hsz, hB, h_x, h_y, hne_x_y⟩ hk
        have L4 : L 4 = true := hk.2.1 4 rfl
        have L5 : L 5 = false := hk.1
        skip
        have hp := h_y (hk.2.1 3 rfl)
        refine ⟨(by simpa using hsz), Below.setRow hB (by first | exact Nat.le_trans hW0 hp.1 | exact ge_y | omega | (have := hB.size; simp at this ⊢; omega)) _, fun hl => ⟨(h_x hl).1, (h_x hl).2.rowOther (hne_x_y hl (hk.2.1 3 rfl)) _⟩, fun _ => ⟨hp.1, ?_⟩, hne_x_y⟩
        rw [show upL L 5 5 = true from rfl]
        exact hp.2.row _
    exact AllI.nil
  case hV0 =>
    intro p q
    refine AllI.cons ?_ ?_
    · skip
      iterate 6 (refine AllI.cons (by first | exact .inl rfl | (refine .inr ?_; simp only [List.getD_cons_zero, List.getD_cons_succ]; done) | exact .inr rfl) ?_)
      exact AllI.nil
    refine AllI.cons ?_ ?_
    · skip
      iterate 6 (refine AllI.cons (by first | exact .inl rfl | (refine .inr ?_; simp only [List.getD_cons_zero, List.getD_cons_succ]; done) | exact .inr rfl) ?_)
      exact AllI.nil
    exact AllI.nil
  case he =>
  clear hB 
  rintro p wr ⟨hsz, hB, h_x, h_y, hne_x_y⟩
  obtain ⟨le_x, x⟩ := h_x rfl
  clear h_x
  obtain ⟨le_y, y⟩ := h_y rfl
  clear h_y
  have ne_x_y : p 2 ≠ p 3 := hne_x_y rfl rfl
  clear hne_x_y
  replace x : blk wr (p 2) (vfn (of3 1073741824 0 0)) 31 := x
  replace y : blk wr (p 3) (vfn (of3 0 1073741824 0)) 31 := y
  have ge_x : w.heap.size ≤ p 2 := Nat.le_trans hW0 le_x
  have ge_y : w.heap.size ≤ p 3 := Nat.le_trans hW0 le_y
  generalize p 2 = x_b at *
  generalize p 3 = y_b at *
  clear hsz hW0
  go_upto_region 2 with (fail)
  rw [← of3_cells] at x y
  go_wp2_with (first | (refine wpList_load_rowG ?hw _ _ rfl _ rfl _ _ _ _ x Try.underlying31 rfl ?hi ?_; (case hw => (first | rfl | (simp [Region.wanted, yielded]; done))); (case hi => (first | kernel_rfl))) | (refine wpList_load_rowG ?hw _ _ rfl _ rfl _ _ _ _ y Try.underlying31 rfl ?hi ?_; (case hw => (first | rfl | (simp [Region.wanted, yielded]; done))); (case hi => (first | kernel_rfl))) | (refine wpList_build2 rfl rfl rfl rfl Try.underlying24 (by kernel_rfl) (by kernel_rfl) (fun bl bw hb l => ?_)))
  go_ret
  exact ⟨_, rfl, blk.new _ _ _, hB.size, hB.alloc hB.size _⟩
theorem t44_self (w : World) : (Op.equalIn 10000 38 (.agg #[.int .i64 1073741824, .int .i64 0, .int .i64 0, .int .i64 0, .int .i64 0, .int .i64 0, .int .i64 0, .int .i64 0, .int .i64 0, .int .i64 0, .int .i64 0, .int .i64 0, .int .i64 0, .int .i64 0, .int .i64 0, .int .i64 (-1073741824)]) (.agg #[.int .i64 1073741824, .int .i64 0, .int .i64 0, .int .i64 0, .int .i64 0, .int .i64 0, .int .i64 0, .int .i64 0, .int .i64 0, .int .i64 0, .int .i64 0, .int .i64 0, .int .i64 0, .int .i64 0, .int .i64 0, .int .i64 (-1073741824)])).run Try.prog w = .ok true w := by kernel_rfl
theorem tb_ml : tbn (ltF [1073741824, 0, 0, 0, 0, 0, 0, 0, 0, 0, 0, 0, 0, 0, 0, -1073741824]) = #[.int .i64 1073741824, .int .i64 0, .int .i64 0, .int .i64 0, .int .i64 0, .int .i64 0, .int .i64 0, .int .i64 0, .int .i64 0, .int .i64 0, .int .i64 0, .int .i64 0, .int .i64 0, .int .i64 0, .int .i64 0, .int .i64 (-1073741824)] := rfl
set_option maxRecDepth 100000 in
set_option maxHeartbeats 12000000 in
theorem awake20_any  (w : World) : Calls Try.prog 11 #[] w fun e w' => e = .returned (.bool true) ∧ Below w.heap.size w w' := by
  have TW := Lib.hid (fun w => stwo_any w)
  have MA := Lib.hid (fun w b h => smatrix_any stw_S (some ⟨b, 0, none⟩) 2 2 w (two_el h) (by decide))
  have SO := Lib.hid (fun w b h => ssolve_any stw_S (some ⟨b, 0, none⟩) 2 2 w (two_el h) (by decide))
  have SP := Lib.hid (fun w b h => sspread_any stw_S (some ⟨b, 0, none⟩) 2 2 w (two_el h) (by decide))
  rw [stw_tb, stw_mE] at MA
  rw [stw_slv, stw_slvE] at SO
  rw [stw_sp, stw_mE] at SP
  have EQ := Lib.hid (fun w => t44_self w)
  have hB : Below w.heap.size w w := Below.refl _ _
  go_enter Try.func11, Try.ntmps11
  go_upto_region 1 with (fail)
  have hW0 : w.heap.size ≤ w.heap.size := by have := hB.size; first | exact this | simpa using this
  apply wp_region_Q 8 [0, 1, 3, 7, 15, 31, 63, 127] [0, 5] [(fun p => (fun b => .slice (some ⟨b, 0, none⟩) 2 2) (p 0)), _, _, _, _, (fun p => .pointer (some ⟨p 5, 0, none⟩)), (fun _ => undef), _] (fun p L w' => w.heap.size ≤ w'.heap.size ∧ Below w.heap.size w w' ∧ (L 0 = true → w.heap.size ≤ p 0 ∧ blk w' (p 0) twoC 36) ∧ (L 5 = true → w.heap.size ≤ p 5 ∧ blk w' (p 5) (bif L 6 then (tbn (ltF [1073741824, 0, 0, 0, 0, 0, 0, 0, 0, 0, 0, 0, 0, 0, 0, -1073741824])) else (tbn fun _ => 0)) 38) ∧ (L 0 = true → L 5 = true → p 0 ≠ p 5)) _ [(0, 8), (1, 9), (2, 7), (3, 10), (4, 11), (5, 1), (7, 2)] [0, 1, 2, 3, 4, 5, 6, 7]
  case hn => rfl
  case hB => kernel_rfl
  case hds => kernel_rfl
  case hA => (intro p; simp only [putsD, Act.put, List.setIfInBounds_toArray, List.set_cons_zero, List.set_cons_succ, List.getD_cons_zero, List.getD_cons_succ]; exact rfl)
  case h0 => exact fun p => ⟨Nat.le_refl _, hB, fun h => absurd h (by decide), fun h => absurd h (by decide), fun h => absurd h (by decide)⟩
  case hmore => exact fun p L w1 w2 ⟨hsz, hB, h_l1, h_m, hne_l1_m⟩ hm => ⟨Nat.le_trans hsz hm.size, hB.trans (hm.mono (Nat.le_trans hW0 hsz)), fun hl => ⟨(h_l1 hl).1, (h_l1 hl).2.below hm (h_l1 hl).2.lt⟩, fun hl => ⟨(h_m hl).1, (h_m hl).2.below hm (h_m hl).2.lt⟩, hne_l1_m⟩
  case hs =>
    intro more
    refine AllI.cons ?_ ?_
    · refine stepI_new 0 rfl (fun p => rfl) rfl (fun b => .slice (some ⟨b, 0, none⟩) 2 2) twoC 36 (fun p => rfl) ?_ ?_
      · rintro p L w1 ⟨hsz, hB, h_l1, h_m, hne_l1_m⟩ hk
        go_simp
        refine (TW.out _).mono ?_
        rintro e w2 ⟨b, rfl, hb, hle, hm⟩
        exact ⟨_, rfl, b, rfl, hb, hle, hm⟩
      rintro p L w1 w2 b ⟨hsz, hB, h_l1, h_m, hne_l1_m⟩ hk hb hle hm
      have L6 : L 6 = false := hk.2.2 6 rfl
      refine ⟨Nat.le_trans hsz hm.size, hB.trans (hm.mono (Nat.le_trans hW0 hsz)), fun _ => ⟨Nat.le_trans hsz hle, ?_⟩, fun hl => absurd hl (by rw [show upL L 0 5 = false from hk.2.2 5 rfl]; decide), fun _ hl => absurd hl (by rw [show upL L 0 5 = false from hk.2.2 5 rfl]; decide)⟩
      exact hb
    refine stepD 1 rfl (fun p => rfl) (fun _ _ _ h => h) more ?_ ?_
    · rintro p L w1 ⟨hsz, hB, h_l1, h_m, hne_l1_m⟩ hk
      have L6 : L 6 = false := hk.2.2 6 rfl
      have hh_l1 := (h_l1 (hk.2.1 0 rfl)).2
      go_simp
      refine (MA.out _ _ hh_l1).mono ?_
      rintro e w2 ⟨rfl, h2⟩
      first | exact ⟨rfl, h2⟩ | (subst h2; exact ⟨rfl, Below.refl _ _⟩)
    iterate 3 (refine stepV _ rfl rfl (fun _ _ _ h => h) (by intros; go_simp; exact ⟨rfl, rfl⟩) ?_)
    refine AllI.cons ?_ ?_
    · refine stepI_alloc 5 rfl (fun p => rfl) rfl (tbn fun _ => 0) 38 (fun p => rfl) ?_ ?_
      · intro p w1
        go_simp
        first | done | rfl | rw [zero_tb]
      rintro p L w1 ⟨hsz, hB, h_l1, h_m, hne_l1_m⟩ hk
      have L6 : L 6 = false := hk.2.2 6 rfl
      refine ⟨Nat.le_trans hsz (by simp), hB.alloc (Nat.le_trans (by first | exact hW0 | (have := hB.size; simp at this ⊢; omega)) hsz) _, fun hl => ⟨(h_l1 hl).1, (h_l1 hl).2.alloc _⟩, fun _ => ⟨hsz, ?_⟩, fun hl _ => Nat.ne_of_lt (h_l1 hl).2.lt⟩
      rw [show upL L 5 6 = false from L6]
      exact blk.new _ _ _
    refine AllI.cons ?_ ?_
    · refine stepI_store 6 rfl (fun p => rfl) (fun p => rfl) _ _ _ rfl (fun p => p 5) 0 (fun p => rfl) (fun p => (tbn (ltF [1073741824, 0, 0, 0, 0, 0, 0, 0, 0, 0, 0, 0, 0, 0, 0, -1073741824]))) (fun p => rfl) (fun p => (tbn fun _ => 0)) (fun p => (tbn (ltF [1073741824, 0, 0, 0, 0, 0, 0, 0, 0, 0, 0, 0, 0, 0, 0, -1073741824]))) 38 (fun p => tbover _ _) (fun p => by first | (rw [tbn_size, tbn_size]; decide) | simp [tbn_size, tbn_size]) (fun p => by rw [tbn_size]; kernel_rfl) (fun p => tbn_one _) ?_ ?_
      · rintro p L w1 ⟨hsz, hB, h_l1, h_m, hne_l1_m⟩ hk
        have L6 : L 6 = false := hk.1
        have hh := (h_m (hk.2.1 5 rfl)).2
        rw [L6] at hh
        try simp only [cond_true, cond_false] at hh
        exact hh
      · rintro p L w1 ⟨hsz, hB, h_l1, h_m, hne_l1_m⟩ hk
        have L6 : L 6 = false := hk.1
        skip
        have hp := h_m (hk.2.1 5 rfl)
        refine ⟨(by simpa using hsz), Below.setRow hB (by first | exact Nat.le_trans hW0 hp.1 | exact ge_m | omega | (have := hB.size; simp at this ⊢; omega)) _, fun hl => ⟨(h_l1 hl).1, (h_l1 hl).2.rowOther (hne_l1_m hl (hk.2.1 5 rfl)) _⟩, fun _ => ⟨hp.1, ?_⟩, hne_l1_m⟩
        rw [show upL L 6 6 = true from rfl]
        exact hp.2.row _
    refine stepV _ rfl rfl (fun _ _ _ h => h) (by intros; go_simp; exact ⟨rfl, rfl⟩) ?_
    exact AllI.nil
  case hV0 =>
    intro p q
    refine AllI.cons ?_ ?_
    · skip
      iterate 8 (refine AllI.cons (by first | exact .inl rfl | (refine .inr ?_; simp only [List.getD_cons_zero, List.getD_cons_succ]; done) | exact .inr rfl) ?_)
      exact AllI.nil
    refine AllI.cons ?_ ?_
    · skip
      iterate 8 (refine AllI.cons (by first | exact .inl rfl | (refine .inr ?_; simp only [List.getD_cons_zero, List.getD_cons_succ]; done) | exact .inr rfl) ?_)
      exact AllI.nil
    exact AllI.nil
  case he =>
  clear hB 
  rintro p wr ⟨hsz, hB, h_l1, h_m, hne_l1_m⟩
  obtain ⟨le_l1, l1⟩ := h_l1 rfl
  clear h_l1
  obtain ⟨le_m, m⟩ := h_m rfl
  clear h_m
  have ne_l1_m : p 0 ≠ p 5 := hne_l1_m rfl rfl
  clear hne_l1_m
  replace l1 : blk wr (p 0) twoC 36 := l1
  replace m : blk wr (p 5) (tbn (ltF [1073741824, 0, 0, 0, 0, 0, 0, 0, 0, 0, 0, 0, 0, 0, 0, -1073741824])) 38 := m
  have ge_l1 : w.heap.size ≤ p 0 := Nat.le_trans hW0 le_l1
  have ge_m : w.heap.size ≤ p 5 := Nat.le_trans hW0 le_m
  generalize p 0 = l1_b at *
  generalize p 5 = m_b at *
  clear hsz hW0
  clear MA
  go_upto_region 2 with (fail)
  have lt_l1 := l1.lt
  have lt_m := m.lt
  have hW0 : w.heap.size ≤ wr.heap.size := by have := hB.size; first | exact this | simpa using this
  apply wp_region_Q 8 [0, 1, 3, 7, 15, 31, 63, 127] [0, 5] [(fun p => (fun b => .slice (some ⟨b, 0, none⟩) 2 2) (p 0)), _, _, _, _, (fun p => .pointer (some ⟨p 5, 0, none⟩)), (fun _ => undef), _] (fun p L w' => wr.heap.size ≤ w'.heap.size ∧ Below w.heap.size w w' ∧ blk w' l1_b twoC 36 ∧ blk w' m_b (tbn (ltF [1073741824, 0, 0, 0, 0, 0, 0, 0, 0, 0, 0, 0, 0, 0, 0, -1073741824])) 38 ∧ (L 0 = true → wr.heap.size ≤ p 0 ∧ blk w' (p 0) twoC 36) ∧ (L 5 = true → wr.heap.size ≤ p 5 ∧ blk w' (p 5) (bif L 6 then (qfn (of4 1073741824 0 0 0)) else (qfn fun _ => 0)) 23) ∧ (L 0 = true → L 5 = true → p 0 ≠ p 5)) _ [(0, 13), (1, 14), (2, 12), (3, 15), (4, 16), (5, 3), (7, 4)] [0, 1, 2, 3, 4, 5, 6, 7]
  case hn => rfl
  case hB => kernel_rfl
  case hds => kernel_rfl
  case hA => (intro p; simp only [putsD, Act.put, List.setIfInBounds_toArray, List.set_cons_zero, List.set_cons_succ, List.getD_cons_zero, List.getD_cons_succ]; exact rfl)
  case h0 => exact fun p => ⟨Nat.le_refl _, hB, l1, m, fun h => absurd h (by decide), fun h => absurd h (by decide), fun h => absurd h (by decide)⟩
  case hmore => exact fun p L w1 w2 ⟨hsz, hB, l1, m, h_l2, h_q, hne_l2_q⟩ hm => ⟨Nat.le_trans hsz hm.size, hB.trans (hm.mono (Nat.le_trans hW0 hsz)), l1.below hm l1.lt, m.below hm m.lt, fun hl => ⟨(h_l2 hl).1, (h_l2 hl).2.below hm (h_l2 hl).2.lt⟩, fun hl => ⟨(h_q hl).1, (h_q hl).2.below hm (h_q hl).2.lt⟩, hne_l2_q⟩
  case hs =>
    intro more
    refine AllI.cons ?_ ?_
    · refine stepI_new 0 rfl (fun p => rfl) rfl (fun b => .slice (some ⟨b, 0, none⟩) 2 2) twoC 36 (fun p => rfl) ?_ ?_
      · rintro p L w1 ⟨hsz, hB, l1, m, h_l2, h_q, hne_l2_q⟩ hk
        go_simp
        refine (TW.out _).mono ?_
        rintro e w2 ⟨b, rfl, hb, hle, hm⟩
        exact ⟨_, rfl, b, rfl, hb, hle, hm⟩
      rintro p L w1 w2 b ⟨hsz, hB, l1, m, h_l2, h_q, hne_l2_q⟩ hk hb hle hm
      have L6 : L 6 = false := hk.2.2 6 rfl
      refine ⟨Nat.le_trans hsz hm.size, hB.trans (hm.mono (Nat.le_trans hW0 hsz)), l1.below hm l1.lt, m.below hm m.lt, fun _ => ⟨Nat.le_trans hsz hle, ?_⟩, fun hl => absurd hl (by rw [show upL L 0 5 = false from hk.2.2 5 rfl]; decide), fun _ hl => absurd hl (by rw [show upL L 0 5 = false from hk.2.2 5 rfl]; decide)⟩
      exact hb
    refine stepD 1 rfl (fun p => rfl) (fun _ _ _ h => h) more ?_ ?_
    · rintro p L w1 ⟨hsz, hB, l1, m, h_l2, h_q, hne_l2_q⟩ hk
      have L6 : L 6 = false := hk.2.2 6 rfl
      have hh_l2 := (h_l2 (hk.2.1 0 rfl)).2
      go_simp
      refine (SO.out _ _ hh_l2).mono ?_
      rintro e w2 ⟨rfl, h2⟩
      first | exact ⟨rfl, h2⟩ | (subst h2; exact ⟨rfl, Below.refl _ _⟩)
    iterate 3 (refine stepV _ rfl rfl (fun _ _ _ h => h) (by intros; go_simp; exact ⟨rfl, rfl⟩) ?_)
    refine AllI.cons ?_ ?_
    · refine stepI_alloc 5 rfl (fun p => rfl) rfl (qfn fun _ => 0) 23 (fun p => rfl) ?_ ?_
      · intro p w1
        go_simp
        first | done | rfl | rw [zero_quat]
      rintro p L w1 ⟨hsz, hB, l1, m, h_l2, h_q, hne_l2_q⟩ hk
      have L6 : L 6 = false := hk.2.2 6 rfl
      refine ⟨Nat.le_trans hsz (by simp), hB.alloc (Nat.le_trans (by first | exact hW0 | (have := hB.size; simp at this ⊢; omega)) hsz) _, l1.alloc _, m.alloc _, fun hl => ⟨(h_l2 hl).1, (h_l2 hl).2.alloc _⟩, fun _ => ⟨hsz, ?_⟩, fun hl _ => Nat.ne_of_lt (h_l2 hl).2.lt⟩
      rw [show upL L 5 6 = false from L6]
      exact blk.new _ _ _
    refine AllI.cons ?_ ?_
    · refine stepI_store 6 rfl (fun p => rfl) (fun p => rfl) _ _ _ rfl (fun p => p 5) 0 (fun p => rfl) (fun p => (qfn (of4 1073741824 0 0 0))) (fun p => rfl) (fun p => (qfn fun _ => 0)) (fun p => (qfn (of4 1073741824 0 0 0))) 23 (fun p => over_q' _ _) (fun p => by first | (rw [qfn_size, qfn_size]; decide) | simp [qfn_size, qfn_size]) (fun p => by rw [qfn_size]; kernel_rfl) (fun p => qfn_one _) ?_ ?_
      · rintro p L w1 ⟨hsz, hB, l1, m, h_l2, h_q, hne_l2_q⟩ hk
        have L6 : L 6 = false := hk.1
        have hh := (h_q (hk.2.1 5 rfl)).2
        rw [L6] at hh
        try simp only [cond_true, cond_false] at hh
        exact hh
      · rintro p L w1 ⟨hsz, hB, l1, m, h_l2, h_q, hne_l2_q⟩ hk
        have L6 : L 6 = false := hk.1
        skip
        have hp := h_q (hk.2.1 5 rfl)
        refine ⟨(by simpa using hsz), Below.setRow hB (by first | exact Nat.le_trans hW0 hp.1 | exact ge_q | omega | (have := hB.size; simp at this ⊢; omega)) _, l1.rowOther (by first | exact Nat.ne_of_lt (Nat.lt_of_lt_of_le lt_l1 hp.1) | omega) _, m.rowOther (by first | exact Nat.ne_of_lt (Nat.lt_of_lt_of_le lt_m hp.1) | omega) _, fun hl => ⟨(h_l2 hl).1, (h_l2 hl).2.rowOther (hne_l2_q hl (hk.2.1 5 rfl)) _⟩, fun _ => ⟨hp.1, ?_⟩, hne_l2_q⟩
        rw [show upL L 6 6 = true from rfl]
        exact hp.2.row _
    refine stepV _ rfl rfl (fun _ _ _ h => h) (by intros; go_simp; exact ⟨rfl, rfl⟩) ?_
    exact AllI.nil
  case hV0 =>
    intro p q
    refine AllI.cons ?_ ?_
    · skip
      iterate 8 (refine AllI.cons (by first | exact .inl rfl | (refine .inr ?_; simp only [List.getD_cons_zero, List.getD_cons_succ]; done) | exact .inr rfl) ?_)
      exact AllI.nil
    refine AllI.cons ?_ ?_
    · skip
      iterate 8 (refine AllI.cons (by first | exact .inl rfl | (refine .inr ?_; simp only [List.getD_cons_zero, List.getD_cons_succ]; done) | exact .inr rfl) ?_)
      exact AllI.nil
    exact AllI.nil
  case he =>
  clear hB l1 m
  rintro p wrr ⟨hsz, hB, l1, m, h_l2, h_q, hne_l2_q⟩
  obtain ⟨le_l2, l2⟩ := h_l2 rfl
  clear h_l2
  obtain ⟨le_q, q⟩ := h_q rfl
  clear h_q
  have ne_l2_q : p 0 ≠ p 5 := hne_l2_q rfl rfl
  clear hne_l2_q
  replace l2 : blk wrr (p 0) twoC 36 := l2
  replace q : blk wrr (p 5) (qfn (of4 1073741824 0 0 0)) 23 := q
  have ne_l1_l2 : l1_b ≠ p 0 := Nat.ne_of_lt (Nat.lt_of_lt_of_le lt_l1 le_l2)
  have ne_m_l2 : m_b ≠ p 0 := Nat.ne_of_lt (Nat.lt_of_lt_of_le lt_m le_l2)
  have ge_l2 : w.heap.size ≤ p 0 := Nat.le_trans hW0 le_l2
  have ne_l1_q : l1_b ≠ p 5 := Nat.ne_of_lt (Nat.lt_of_lt_of_le lt_l1 le_q)
  have ne_m_q : m_b ≠ p 5 := Nat.ne_of_lt (Nat.lt_of_lt_of_le lt_m le_q)
  have ge_q : w.heap.size ≤ p 5 := Nat.le_trans hW0 le_q
  generalize p 0 = l2_b at *
  generalize p 5 = q_b at *
  clear lt_l1
  clear lt_m
  clear hsz hW0
  clear SO
  go_upto_region 3 with (fail)
  have lt_l1 := l1.lt
  have lt_m := m.lt
  have lt_l2 := l2.lt
  have lt_q := q.lt
  have hW0 : w.heap.size ≤ wrr.heap.size := by have := hB.size; first | exact this | simpa using this
  apply wp_region_Q 7 [0, 1, 3, 7, 15, 31, 63] [0] [(fun p => (fun b => .slice (some ⟨b, 0, none⟩) 2 2) (p 0)), _, _, _, _, _, _] (fun p L w' => wrr.heap.size ≤ w'.heap.size ∧ Below w.heap.size w w' ∧ blk w' l1_b twoC 36 ∧ blk w' m_b (tbn (ltF [1073741824, 0, 0, 0, 0, 0, 0, 0, 0, 0, 0, 0, 0, 0, 0, -1073741824])) 38 ∧ blk w' l2_b twoC 36 ∧ blk w' q_b (qfn (of4 1073741824 0 0 0)) 23 ∧ (L 0 = true → wrr.heap.size ≤ p 0 ∧ blk w' (p 0) twoC 36)) _ [(0, 18), (1, 19), (2, 17), (3, 20), (4, 21), (5, 5), (6, 6)] [0, 1, 2, 3, 4, 5, 6]
  case hn => rfl
  case hB => kernel_rfl
  case hds => kernel_rfl
  case hA => (intro p; simp only [putsD, Act.put, List.setIfInBounds_toArray, List.set_cons_zero, List.set_cons_succ, List.getD_cons_zero, List.getD_cons_succ]; exact rfl)
  case h0 => exact fun p => ⟨Nat.le_refl _, hB, l1, m, l2, q, fun h => absurd h (by decide)⟩
  case hmore => exact fun p L w1 w2 ⟨hsz, hB, l1, m, l2, q, h_l3⟩ hm => ⟨Nat.le_trans hsz hm.size, hB.trans (hm.mono (Nat.le_trans hW0 hsz)), l1.below hm l1.lt, m.below hm m.lt, l2.below hm l2.lt, q.below hm q.lt, fun hl => ⟨(h_l3 hl).1, (h_l3 hl).2.below hm (h_l3 hl).2.lt⟩⟩
  case hs =>
    intro more
    refine AllI.cons ?_ ?_
    · refine stepI_new 0 rfl (fun p => rfl) rfl (fun b => .slice (some ⟨b, 0, none⟩) 2 2) twoC 36 (fun p => rfl) ?_ ?_
      · rintro p L w1 ⟨hsz, hB, l1, m, l2, q, h_l3⟩ hk
        go_simp
        refine (TW.out _).mono ?_
        rintro e w2 ⟨b, rfl, hb, hle, hm⟩
        exact ⟨_, rfl, b, rfl, hb, hle, hm⟩
      rintro p L w1 w2 b ⟨hsz, hB, l1, m, l2, q, h_l3⟩ hk hb hle hm
      refine ⟨Nat.le_trans hsz hm.size, hB.trans (hm.mono (Nat.le_trans hW0 hsz)), l1.below hm l1.lt, m.below hm m.lt, l2.below hm l2.lt, q.below hm q.lt, fun _ => ⟨Nat.le_trans hsz hle, ?_⟩⟩
      exact hb
    refine stepD 1 rfl (fun p => rfl) (fun _ _ _ h => h) more ?_ ?_
    · rintro p L w1 ⟨hsz, hB, l1, m, l2, q, h_l3⟩ hk
      have hh_l3 := (h_l3 (hk.2.1 0 rfl)).2
      go_simp
      refine (SP.out _ _ hh_l3).mono ?_
      rintro e w2 ⟨rfl, h2⟩
      first | exact ⟨rfl, h2⟩ | (subst h2; exact ⟨rfl, Below.refl _ _⟩)
    iterate 5 (refine stepV _ rfl rfl (fun _ _ _ h => h) (by intros; go_simp; exact ⟨rfl, rfl⟩) ?_)
    exact AllI.nil
  case hV0 =>
    intro p q
    refine AllI.cons ?_ ?_
    · skip
      iterate 7 (refine AllI.cons (by first | exact .inl rfl | (refine .inr ?_; simp only [List.getD_cons_zero, List.getD_cons_succ]; done) | exact .inr rfl) ?_)
      exact AllI.nil
    exact AllI.nil
  case he =>
  clear hB l1 m l2 q
  rintro p wrrr ⟨hsz, hB, l1, m, l2, q, h_l3⟩
  obtain ⟨le_l3, l3⟩ := h_l3 rfl
  clear h_l3
  replace l3 : blk wrrr (p 0) twoC 36 := l3
  have ne_l1_l3 : l1_b ≠ p 0 := Nat.ne_of_lt (Nat.lt_of_lt_of_le lt_l1 le_l3)
  have ne_m_l3 : m_b ≠ p 0 := Nat.ne_of_lt (Nat.lt_of_lt_of_le lt_m le_l3)
  have ne_l2_l3 : l2_b ≠ p 0 := Nat.ne_of_lt (Nat.lt_of_lt_of_le lt_l2 le_l3)
  have ne_q_l3 : q_b ≠ p 0 := Nat.ne_of_lt (Nat.lt_of_lt_of_le lt_q le_l3)
  have ge_l3 : w.heap.size ≤ p 0 := Nat.le_trans hW0 le_l3
  generalize p 0 = l3_b at *
  clear lt_l1
  clear lt_m
  clear lt_l2
  clear lt_q
  clear hsz hW0
  clear SP
  rw [tb_ml] at m
  rw [← of4_cells] at q
  have E1 := fun w => EQ.out w
  have E2 : ∀ w, (Op.equalIn 10000 23 (.agg #[.int .i64 1073741824, .int .i64 0, .int .i64 0, .int .i64 0]) (.agg #[.int .i64 1073741824, .int .i64 0, .int .i64 0, .int .i64 0])).run Try.prog w = .ok true w := fun w => by rw [of4_cells]; exact quat_eq_self _ w
  go_wp2_with (first | (refine wpList_load_rowG ?hw _ _ rfl _ rfl _ _ _ _ m Try.underlying38 rfl ?hi ?_; (case hw => (first | rfl | (simp [Region.wanted, yielded]; done))); (case hi => (first | kernel_rfl))) | (refine wpList_load_rowG ?hw _ _ rfl _ rfl _ _ _ _ q Try.underlying23 rfl ?hi ?_; (case hw => (first | rfl | (simp [Region.wanted, yielded]; done))); (case hi => (first | kernel_rfl))))
  go_ret
  exact ⟨rfl, hB⟩
end Go.Proofs.Ytkmelddejdikgaa
