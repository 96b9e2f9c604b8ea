/-
  Chapter 20: the examples of the document.
-/
import Derived.Test.YtkmelddejdikgaaSkL
set_option linter.unusedSimpArgs false
set_option linter.unusedVariables false
namespace Go.Proofs.Ytkmelddejdikgaa
open Go.RowKit PM Dt
theorem q1_I : ∀ i, i < 4 → I64 ((of4 1073741824 0 0 0) i) := of4_I ⟨by omega, by omega⟩ ⟨by omega, by omega⟩ ⟨by omega, by omega⟩ ⟨by omega, by omega⟩
set_option maxRecDepth 100000 in
set_option maxHeartbeats 20000000 in
theorem starsknown_any  (w : World) : Calls Try.prog 4 #[] w fun e w' => e = .returned (.bool true) ∧ Below w.heap.size w w' := by
  have AW := Lib.hid (fun w => awake20_any w)
  have TW := Lib.hid (fun w => stwo_any w)
  have R1 := Lib.hid (fun w b h => sres_any (of4 1073741824 0 0 0) stw_S (some ⟨b, 0, none⟩) 2 2 w (two_el h) (by decide) q1_I)
  rw [stw_r.1, stw_r.2, ← of4_cells] at R1
  have S1 := Lib.hid (fun w b (h : blk w b #[.int .i64 0, .int .i64 1073741824, .int .i64 0, .int .i64 1073741824, .int .i64 0, .int .i64 0, .int .i64 1, .int .i64 0, .int .i64 0, .int .i64 1073741824, .int .i64 0, .int .i64 0, .int .i64 1073741824, .int .i64 1] 36) => ssolve_any stx_S (some ⟨b, 0, none⟩) 2 2 w (el_2 h rfl) (by decide))
  rw [stx_slv, stx_slvE] at S1
  have S2 := Lib.hid (fun w b h => ssolve_any stw_S (some ⟨b, 0, none⟩) 1 2 w (el_fewer (two_el h) (by decide)) (by decide))
  rw [stw_E1] at S2
  have S3 := Lib.hid (fun w => ssolve_any stw_S none 0 0 w el_none (by decide))
  rw [stn_E] at S3
  generalize slvV stw_S 1 = V1 at *
  generalize slvV stw_S 0 = V0 at *
  have P1 := Lib.hid (fun w b h => sspread_any stw_S (some ⟨b, 0, none⟩) 1 2 w (el_fewer (two_el h) (by decide)) (by decide))
  rw [stw_sp1, stw_m1] at P1
  have R2 := Lib.hid (fun w b (h : blk w b #[.int .i64 1073741824, .int .i64 0, .int .i64 0, .int .i64 (-1073741824), .int .i64 0, .int .i64 0, .int .i64 7] 36) => sres_any (of4 1073741824 0 0 0) sty_S (some ⟨b, 0, none⟩) 1 1 w (el_1 h rfl) (by decide) q1_I)
  rw [sty_r.1, sty_r.2, ← of4_cells] at R2
  have M1 := Lib.hid (fun w b (h : blk w b #[.int .i64 1073741824, .int .i64 0, .int .i64 0, .int .i64 1073741824, .int .i64 0, .int .i64 0, .int .i64 0] 36) => smatrix_any stz_S (some ⟨b, 0, none⟩) 1 1 w (el_1 h rfl) (by decide))
  rw [stz_E] at M1
  generalize matV stz_S 1 = MV at *
  have hB : Below w.heap.size w w := Below.refl _ _
  go_enter Try.func4, Try.ntmps4
  go_upto_region 1 with (fail)
  have hW0 : w.heap.size ≤ w.heap.size := by have := hB.size; first | exact this | simpa using this
  apply wp_region_Q 9 [0, 1, 3, 7, 15, 31, 63, 127, 255] [3, 4, 5] [_, _, _, (fun p => .pointer (some ⟨p 3, 0, none⟩)), (fun p => .pointer (some ⟨p 4, 0, none⟩)), (fun p => .pointer (some ⟨p 5, 0, none⟩)), (fun _ => undef), (fun _ => undef), (fun _ => undef)] (fun p L w' => w.heap.size ≤ w'.heap.size ∧ Below w.heap.size w w' ∧ (L 3 = true → w.heap.size ≤ p 3 ∧ blk w' (p 3) (bif L 6 then (vfn (of3 1073741824 0 0)) else (vfn fun _ => 0)) 31) ∧ (L 4 = true → w.heap.size ≤ p 4 ∧ blk w' (p 4) (bif L 7 then (vfn (of3 0 1073741824 0)) else (vfn fun _ => 0)) 31) ∧ (L 5 = true → w.heap.size ≤ p 5 ∧ blk w' (p 5) (bif L 8 then (vfn (of3 0 0 1073741824)) else (vfn fun _ => 0)) 31) ∧ (L 3 = true → L 4 = true → p 3 ≠ p 4) ∧ (L 3 = true → L 5 = true → p 3 ≠ p 5) ∧ (L 4 = true → L 5 = true → p 4 ≠ p 5)) _ [(0, 21), (1, 22), (2, 23), (3, 1), (4, 2), (5, 3)] [0, 1, 2, 3, 4, 5, 6, 7, 8]
  case hn => rfl
  case hB => kernel_rfl
  case hds => kernel_rfl
  case hA => (intro p; simp only [putsD, Act.put, List.setIfInBounds_toArray, List.set_cons_zero, List.set_cons_succ, List.getD_cons_zero, List.getD_cons_succ]; exact rfl)
  case h0 => exact fun p => ⟨Nat.le_refl _, hB, fun h => absurd h (by decide), fun h => absurd h (by decide), fun h => absurd h (by decide), fun h => absurd h (by decide), fun h => absurd h (by decide), fun h => absurd h (by decide)⟩
  case hmore => exact fun p L w1 w2 ⟨hsz, hB, h_x, h_y, h_z, hne_x_y, hne_x_z, hne_y_z⟩ hm => ⟨Nat.le_trans hsz hm.size, hB.trans (hm.mono (Nat.le_trans hW0 hsz)), fun hl => ⟨(h_x hl).1, (h_x hl).2.below hm (h_x hl).2.lt⟩, fun hl => ⟨(h_y hl).1, (h_y hl).2.below hm (h_y hl).2.lt⟩, fun hl => ⟨(h_z hl).1, (h_z hl).2.below hm (h_z hl).2.lt⟩, hne_x_y, hne_x_z, hne_y_z⟩
  case hs =>
    intro more
    refine stepV 0 rfl rfl (fun _ _ _ h => h) ?_ ?_
    · intros; (try simp only [vfn, qfn]); go_simp; exact ⟨rfl, rfl⟩
    refine stepV 1 rfl rfl (fun _ _ _ h => h) ?_ ?_
    · intros; (try simp only [vfn, qfn]); go_simp; exact ⟨rfl, rfl⟩
    refine stepV 2 rfl rfl (fun _ _ _ h => h) ?_ ?_
    · intros; (try simp only [vfn, qfn]); go_simp; exact ⟨rfl, rfl⟩
    refine AllI.cons ?_ ?_
    · refine stepI_alloc 3 rfl (fun p => rfl) rfl (vfn fun _ => 0) 31 (fun p => rfl) ?_ ?_
      · intro p w1
        go_simp
        first | done | rfl | rw [zero_vec]
      rintro p L w1 ⟨hsz, hB, h_x, h_y, h_z, hne_x_y, hne_x_z, hne_y_z⟩ hk
      have L6 : L 6 = false := hk.2.2 6 rfl
      have L7 : L 7 = false := hk.2.2 7 rfl
      have L8 : L 8 = false := hk.2.2 8 rfl
      refine ⟨Nat.le_trans hsz (by simp), hB.alloc (Nat.le_trans (by first | exact hW0 | (have := hB.size; simp at this ⊢; omega)) hsz) _, fun _ => ⟨hsz, ?_⟩, fun hl => absurd hl (by rw [show upL L 3 4 = false from hk.2.2 4 rfl]; decide), fun hl => absurd hl (by rw [show upL L 3 5 = false from hk.2.2 5 rfl]; decide), fun _ hl => absurd hl (by rw [show upL L 3 4 = false from hk.2.2 4 rfl]; decide), fun _ hl => absurd hl (by rw [show upL L 3 5 = false from hk.2.2 5 rfl]; decide), hne_y_z⟩
      rw [show upL L 3 6 = false from L6]
      exact blk.new _ _ _
    refine AllI.cons ?_ ?_
    · refine stepI_alloc 4 rfl (fun p => rfl) rfl (vfn fun _ => 0) 31 (fun p => rfl) ?_ ?_
      · intro p w1
        go_simp
        first | done | rfl | rw [zero_vec]
      rintro p L w1 ⟨hsz, hB, h_x, h_y, h_z, hne_x_y, hne_x_z, hne_y_z⟩ hk
      have L6 : L 6 = false := hk.2.2 6 rfl
      have L7 : L 7 = false := hk.2.2 7 rfl
      have L8 : L 8 = false := hk.2.2 8 rfl
      refine ⟨Nat.le_trans hsz (by simp), hB.alloc (Nat.le_trans (by first | exact hW0 | (have := hB.size; simp at this ⊢; omega)) hsz) _, fun hl => ⟨(h_x hl).1, (h_x hl).2.alloc _⟩, fun _ => ⟨hsz, ?_⟩, fun hl => absurd hl (by rw [show upL L 4 5 = false from hk.2.2 5 rfl]; decide), fun hl _ => Nat.ne_of_lt (h_x hl).2.lt, hne_x_z, fun _ hl => absurd hl (by rw [show upL L 4 5 = false from hk.2.2 5 rfl]; decide)⟩
      rw [show upL L 4 7 = false from L7]
      exact blk.new _ _ _
    refine AllI.cons ?_ ?_
    · refine stepI_alloc 5 rfl (fun p => rfl) rfl (vfn fun _ => 0) 31 (fun p => rfl) ?_ ?_
      · intro p w1
        go_simp
        first | done | rfl | rw [zero_vec]
      rintro p L w1 ⟨hsz, hB, h_x, h_y, h_z, hne_x_y, hne_x_z, hne_y_z⟩ hk
      have L6 : L 6 = false := hk.2.2 6 rfl
      have L7 : L 7 = false := hk.2.2 7 rfl
      have L8 : L 8 = false := hk.2.2 8 rfl
      refine ⟨Nat.le_trans hsz (by simp), hB.alloc (Nat.le_trans (by first | exact hW0 | (have := hB.size; simp at this ⊢; omega)) hsz) _, fun hl => ⟨(h_x hl).1, (h_x hl).2.alloc _⟩, fun hl => ⟨(h_y hl).1, (h_y hl).2.alloc _⟩, fun _ => ⟨hsz, ?_⟩, hne_x_y, fun hl _ => Nat.ne_of_lt (h_x hl).2.lt, fun hl _ => Nat.ne_of_lt (h_y hl).2.lt⟩
      rw [show upL L 5 8 = false from L8]
      exact blk.new _ _ _
    refine AllI.cons ?_ ?_
    · refine stepI_store 6 rfl (fun p => rfl) (fun p => rfl) _ _ _ rfl (fun p => p 3) 0 (fun p => rfl) (fun p => (vfn (of3 1073741824 0 0))) (fun p => congrArg Value.agg (of3_cells _ _ _)) (fun p => (vfn fun _ => 0)) (fun p => (vfn (of3 1073741824 0 0))) 31 (fun p => over_v' _ _) (fun p => by first | (rw [vfn_size, vfn_size]; decide) | simp [vfn_size, vfn_size]) (fun p => by rw [vfn_size]; kernel_rfl) (fun p => vfn_one _) ?_ ?_
      · rintro p L w1 ⟨hsz, hB, h_x, h_y, h_z, hne_x_y, hne_x_z, hne_y_z⟩ hk
        have L6 : L 6 = false := hk.1
        have L7 : L 7 = false := hk.2.2 7 rfl
        have L8 : L 8 = false := hk.2.2 8 rfl
        have hh := (h_x (hk.2.1 3 rfl)).2
        rw [L6] at hh
        try simp only [cond_true, cond_false] at hh
        exact hh
      · rintro p L w1 ⟨hsz, hB, h_x, h_y, h_z, hne_x_y, hne_x_z, hne_y_z⟩ hk
        have L6 : L 6 = false := hk.1
        have L7 : L 7 = false := hk.2.2 7 rfl
        have L8 : L 8 = false := hk.2.2 8 rfl
        skip
        have hp := h_x (hk.2.1 3 rfl)
        refine ⟨(by simpa using hsz), Below.setRow hB (by first | exact Nat.le_trans hW0 hp.1 | exact ge_x | omega | (have := hB.size; simp at this ⊢; omega)) _, fun _ => ⟨hp.1, ?_⟩, fun hl => ⟨(h_y hl).1, (h_y hl).2.rowOther (Ne.symm (hne_x_y (hk.2.1 3 rfl) hl)) _⟩, fun hl => ⟨(h_z hl).1, (h_z hl).2.rowOther (Ne.symm (hne_x_z (hk.2.1 3 rfl) hl)) _⟩, hne_x_y, hne_x_z, hne_y_z⟩
        rw [show upL L 6 6 = true from rfl]
        exact hp.2.row _
    refine AllI.cons ?_ ?_
    · refine stepI_store 7 rfl (fun p => rfl) (fun p => rfl) _ _ _ rfl (fun p => p 4) 0 (fun p => rfl) (fun p => (vfn (of3 0 1073741824 0))) (fun p => congrArg Value.agg (of3_cells _ _ _)) (fun p => (vfn fun _ => 0)) (fun p => (vfn (of3 0 1073741824 0))) 31 (fun p => over_v' _ _) (fun p => by first | (rw [vfn_size, vfn_size]; decide) | simp [vfn_size, vfn_size]) (fun p => by rw [vfn_size]; kernel_rfl) (fun p => vfn_one _) ?_ ?_
      · rintro p L w1 ⟨hsz, hB, h_x, h_y, h_z, hne_x_y, hne_x_z, hne_y_z⟩ hk
        have L6 : L 6 = true := hk.2.1 6 rfl
        have L7 : L 7 = false := hk.1
        have L8 : L 8 = false := hk.2.2 8 rfl
        have hh := (h_y (hk.2.1 4 rfl)).2
        rw [L7] at hh
        try simp only [cond_true, cond_false] at hh
        exact hh
      · rintro p L w1 ⟨hsz, hB, h_x, h_y, h_z, hne_x_y, hne_x_z, hne_y_z⟩ hk
        have L6 : L 6 = true := hk.2.1 6 rfl
        have L7 : L 7 = false := hk.1
        have L8 : L 8 = false := hk.2.2 8 rfl
        skip
        have hp := h_y (hk.2.1 4 rfl)
        refine ⟨(by simpa using hsz), Below.setRow hB (by first | exact Nat.le_trans hW0 hp.1 | exact ge_y | omega | (have := hB.size; simp at this ⊢; omega)) _, fun hl => ⟨(h_x hl).1, (h_x hl).2.rowOther (hne_x_y hl (hk.2.1 4 rfl)) _⟩, fun _ => ⟨hp.1, ?_⟩, fun hl => ⟨(h_z hl).1, (h_z hl).2.rowOther (Ne.symm (hne_y_z (hk.2.1 4 rfl) hl)) _⟩, hne_x_y, hne_x_z, hne_y_z⟩
        rw [show upL L 7 7 = true from rfl]
        exact hp.2.row _
    refine AllI.cons ?_ ?_
    · refine stepI_store 8 rfl (fun p => rfl) (fun p => rfl) _ _ _ rfl (fun p => p 5) 0 (fun p => rfl) (fun p => (vfn (of3 0 0 1073741824))) (fun p => congrArg Value.agg (of3_cells _ _ _)) (fun p => (vfn fun _ => 0)) (fun p => (vfn (of3 0 0 1073741824))) 31 (fun p => over_v' _ _) (fun p => by first | (rw [vfn_size, vfn_size]; decide) | simp [vfn_size, vfn_size]) (fun p => by rw [vfn_size]; kernel_rfl) (fun p => vfn_one _) ?_ ?_
      · rintro p L w1 ⟨hsz, hB, h_x, h_y, h_z, hne_x_y, hne_x_z, hne_y_z⟩ hk
        have L6 : L 6 = true := hk.2.1 6 rfl
        have L7 : L 7 = true := hk.2.1 7 rfl
        have L8 : L 8 = false := hk.1
        have hh := (h_z (hk.2.1 5 rfl)).2
        rw [L8] at hh
        try simp only [cond_true, cond_false] at hh
        exact hh
      · rintro p L w1 ⟨hsz, hB, h_x, h_y, h_z, hne_x_y, hne_x_z, hne_y_z⟩ hk
        have L6 : L 6 = true := hk.2.1 6 rfl
        have L7 : L 7 = true := hk.2.1 7 rfl
        have L8 : L 8 = false := hk.1
        skip
        have hp := h_z (hk.2.1 5 rfl)
        refine ⟨(by simpa using hsz), Below.setRow hB (by first | exact Nat.le_trans hW0 hp.1 | exact ge_z | omega | (have := hB.size; simp at this ⊢; omega)) _, fun hl => ⟨(h_x hl).1, (h_x hl).2.rowOther (hne_x_z hl (hk.2.1 5 rfl)) _⟩, fun hl => ⟨(h_y hl).1, (h_y hl).2.rowOther (hne_y_z hl (hk.2.1 5 rfl)) _⟩, fun _ => ⟨hp.1, ?_⟩, hne_x_y, hne_x_z, hne_y_z⟩
        rw [show upL L 8 8 = true from rfl]
        exact hp.2.row _
    exact AllI.nil
  case hV0 =>
    intro p q
    refine AllI.cons ?_ ?_
    · skip
      iterate 9 (refine AllI.cons (by first | exact .inl rfl | (refine .inr ?_; simp only [List.getD_cons_zero, List.getD_cons_succ]; done) | exact .inr rfl) ?_)
      exact AllI.nil
    refine AllI.cons ?_ ?_
    · skip
      iterate 9 (refine AllI.cons (by first | exact .inl rfl | (refine .inr ?_; simp only [List.getD_cons_zero, List.getD_cons_succ]; done) | exact .inr rfl) ?_)
      exact AllI.nil
    refine AllI.cons ?_ ?_
    · skip
      iterate 9 (refine AllI.cons (by first | exact .inl rfl | (refine .inr ?_; simp only [List.getD_cons_zero, List.getD_cons_succ]; done) | exact .inr rfl) ?_)
      exact AllI.nil
    exact AllI.nil
  case he =>
  clear hB 
  rintro p wr ⟨hsz, hB, h_x, h_y, h_z, hne_x_y, hne_x_z, hne_y_z⟩
  obtain ⟨le_x, x⟩ := h_x rfl
  clear h_x
  obtain ⟨le_y, y⟩ := h_y rfl
  clear h_y
  obtain ⟨le_z, z⟩ := h_z rfl
  clear h_z
  have ne_x_y : p 3 ≠ p 4 := hne_x_y rfl rfl
  clear hne_x_y
  have ne_x_z : p 3 ≠ p 5 := hne_x_z rfl rfl
  clear hne_x_z
  have ne_y_z : p 4 ≠ p 5 := hne_y_z rfl rfl
  clear hne_y_z
  replace x : blk wr (p 3) (vfn (of3 1073741824 0 0)) 31 := x
  replace y : blk wr (p 4) (vfn (of3 0 1073741824 0)) 31 := y
  replace z : blk wr (p 5) (vfn (of3 0 0 1073741824)) 31 := z
  have ge_x : w.heap.size ≤ p 3 := Nat.le_trans hW0 le_x
  have ge_y : w.heap.size ≤ p 4 := Nat.le_trans hW0 le_y
  have ge_z : w.heap.size ≤ p 5 := Nat.le_trans hW0 le_z
  generalize p 3 = x_b at *
  generalize p 4 = y_b at *
  generalize p 5 = z_b at *
  clear hsz hW0
  go_upto_region 2 with (fail)
  have lt_x := x.lt
  have lt_y := y.lt
  have lt_z := z.lt
  have hW0 : w.heap.size ≤ wr.heap.size := by have := hB.size; first | exact this | simpa using this
  apply wp_region_Q 3 [0, 1, 3] [1] [_, (fun p => .pointer (some ⟨p 1, 0, none⟩)), (fun _ => undef)] (fun p L w' => wr.heap.size ≤ w'.heap.size ∧ Below w.heap.size w w' ∧ blk w' x_b (vfn (of3 1073741824 0 0)) 31 ∧ blk w' y_b (vfn (of3 0 1073741824 0)) 31 ∧ blk w' z_b (vfn (of3 0 0 1073741824)) 31 ∧ (L 1 = true → wr.heap.size ≤ p 1 ∧ blk w' (p 1) (bif L 2 then (qfn (of4 1073741824 0 0 0)) else (qfn fun _ => 0)) 23)) _ [(0, 24), (1, 4)] [0, 1, 2]
  case hn => rfl
  case hB => kernel_rfl
  case hds => kernel_rfl
  case hA => (intro p; simp only [putsD, Act.put, List.setIfInBounds_toArray, List.set_cons_zero, List.set_cons_succ, List.getD_cons_zero, List.getD_cons_succ]; exact rfl)
  case h0 => exact fun p => ⟨Nat.le_refl _, hB, x, y, z, fun h => absurd h (by decide)⟩
  case hmore => exact fun p L w1 w2 ⟨hsz, hB, x, y, z, h_i⟩ hm => ⟨Nat.le_trans hsz hm.size, hB.trans (hm.mono (Nat.le_trans hW0 hsz)), x.below hm x.lt, y.below hm y.lt, z.below hm z.lt, fun hl => ⟨(h_i hl).1, (h_i hl).2.below hm (h_i hl).2.lt⟩⟩
  case hs =>
    intro more
    refine stepV 0 rfl rfl (fun _ _ _ h => h) ?_ ?_
    · intros; (try simp only [vfn, qfn]); go_simp; exact ⟨rfl, rfl⟩
    refine AllI.cons ?_ ?_
    · refine stepI_alloc 1 rfl (fun p => rfl) rfl (qfn fun _ => 0) 23 (fun p => rfl) ?_ ?_
      · intro p w1
        go_simp
        first | done | rfl | rw [zero_quat]
      rintro p L w1 ⟨hsz, hB, x, y, z, h_i⟩ hk
      have L2 : L 2 = false := hk.2.2 2 rfl
      refine ⟨Nat.le_trans hsz (by simp), hB.alloc (Nat.le_trans (by first | exact hW0 | (have := hB.size; simp at this ⊢; omega)) hsz) _, x.alloc _, y.alloc _, z.alloc _, fun _ => ⟨hsz, ?_⟩⟩
      rw [show upL L 1 2 = false from L2]
      exact blk.new _ _ _
    refine AllI.cons ?_ ?_
    · refine stepI_store 2 rfl (fun p => rfl) (fun p => rfl) _ _ _ rfl (fun p => p 1) 0 (fun p => rfl) (fun p => (qfn (of4 1073741824 0 0 0))) (fun p => congrArg Value.agg (of4_cells _ _ _ _)) (fun p => (qfn fun _ => 0)) (fun p => (qfn (of4 1073741824 0 0 0))) 23 (fun p => over_q' _ _) (fun p => by first | (rw [qfn_size, qfn_size]; decide) | simp [qfn_size, qfn_size]) (fun p => by rw [qfn_size]; kernel_rfl) (fun p => qfn_one _) ?_ ?_
      · rintro p L w1 ⟨hsz, hB, x, y, z, h_i⟩ hk
        have L2 : L 2 = false := hk.1
        have hh := (h_i (hk.2.1 1 rfl)).2
        rw [L2] at hh
        try simp only [cond_true, cond_false] at hh
        exact hh
      · rintro p L w1 ⟨hsz, hB, x, y, z, h_i⟩ hk
        have L2 : L 2 = false := hk.1
        skip
        have hp := h_i (hk.2.1 1 rfl)
        refine ⟨(by simpa using hsz), Below.setRow hB (by first | exact Nat.le_trans hW0 hp.1 | exact ge_i | omega | (have := hB.size; simp at this ⊢; omega)) _, x.rowOther (by first | exact Nat.ne_of_lt (Nat.lt_of_lt_of_le lt_x hp.1) | omega) _, y.rowOther (by first | exact Nat.ne_of_lt (Nat.lt_of_lt_of_le lt_y hp.1) | omega) _, z.rowOther (by first | exact Nat.ne_of_lt (Nat.lt_of_lt_of_le lt_z hp.1) | omega) _, fun _ => ⟨hp.1, ?_⟩⟩
        rw [show upL L 2 2 = true from rfl]
        exact hp.2.row _
    exact AllI.nil
  case hV0 =>
    intro p q
    refine AllI.cons ?_ ?_
    · skip
      iterate 3 (refine AllI.cons (by first | exact .inl rfl | (refine .inr ?_; simp only [List.getD_cons_zero, List.getD_cons_succ]; done) | exact .inr rfl) ?_)
      exact AllI.nil
    exact AllI.nil
  case he =>
  clear hB x y z
  rintro p wrr ⟨hsz, hB, x, y, z, h_i⟩
  obtain ⟨le_i, i⟩ := h_i rfl
  clear h_i
  replace i : blk wrr (p 1) (qfn (of4 1073741824 0 0 0)) 23 := i
  have ne_x_i : x_b ≠ p 1 := Nat.ne_of_lt (Nat.lt_of_lt_of_le lt_x le_i)
  have ne_y_i : y_b ≠ p 1 := Nat.ne_of_lt (Nat.lt_of_lt_of_le lt_y le_i)
  have ne_z_i : z_b ≠ p 1 := Nat.ne_of_lt (Nat.lt_of_lt_of_le lt_z le_i)
  have ge_i : w.heap.size ≤ p 1 := Nat.le_trans hW0 le_i
  generalize p 1 = i_b at *
  clear lt_x
  clear lt_y
  clear lt_z
  clear hsz hW0
  rw [← of3_cells] at x y z
  rw [← of4_cells] at i
  go_upto_region 3 with (fail)
  have lt_x := x.lt
  have lt_y := y.lt
  have lt_z := z.lt
  have lt_i := i.lt
  have hW0 : w.heap.size ≤ wrr.heap.size := by have := hB.size; first | exact this | simpa using this
  apply wp_region_I 8 [0, 0, 3, 7, 15, 15, 31, 127] [1] [_, (fun p => (fun b => .slice (some ⟨b, 0, none⟩) 2 2) (p 1)), _, _, _, _, _, _] (fun p L w' => wrr.heap.size ≤ w'.heap.size ∧ Below w.heap.size w w' ∧ blk w' x_b #[.int .i64 1073741824, .int .i64 0, .int .i64 0] 31 ∧ blk w' y_b #[.int .i64 0, .int .i64 1073741824, .int .i64 0] 31 ∧ blk w' z_b #[.int .i64 0, .int .i64 0, .int .i64 1073741824] 31 ∧ blk w' i_b #[.int .i64 1073741824, .int .i64 0, .int .i64 0, .int .i64 0] 23 ∧ (L 1 = true → wrr.heap.size ≤ p 1 ∧ blk w' (p 1) twoC 36)) _ [(0, 26), (1, 27), (2, 28), (3, 25), (4, 29), (5, 30), (6, 5), (7, 6)] [0, 1, 2, 3, 4, 5, 6, 7]
  case hn => rfl
  case hm => kernel_rfl
  case hB => kernel_rfl
  case hds => kernel_rfl
  case hA => (intro p; simp only [putsD, Act.put, List.setIfInBounds_toArray, List.set_cons_zero, List.set_cons_succ, List.getD_cons_zero, List.getD_cons_succ]; exact rfl)
  case h0 => exact fun p => ⟨Nat.le_refl _, hB.drew, x.drew, y.drew, z.drew, i.drew, fun h => absurd h (by decide)⟩
  case hmore => exact fun p L w1 w2 ⟨hsz, hB, x, y, z, i, h_l1⟩ hm => ⟨Nat.le_trans hsz hm.size, hB.trans (hm.mono (Nat.le_trans hW0 hsz)), x.below hm x.lt, y.below hm y.lt, z.below hm z.lt, i.below hm i.lt, fun hl => ⟨(h_l1 hl).1, (h_l1 hl).2.below hm (h_l1 hl).2.lt⟩⟩
  case hs =>
    intro more
    refine stepV 0 rfl rfl (fun _ _ _ h => h) ?_ ?_
    · rintro p L w1 ⟨hsz, hB, x, y, z, i, h_l1⟩ hk
      first | exact valR_row _ _ rfl _ rfl _ _ i _ Try.underlying23 rfl (by first | kernel_rfl | (rw [qfn_size]; kernel_rfl)) rfl | (have hc := i.cellIs (show _[0]? = some _ from rfl); go_simp; exact ⟨rfl, rfl⟩)
    refine AllI.cons ?_ ?_
    · refine stepI_new 1 rfl (fun p => rfl) rfl (fun b => .slice (some ⟨b, 0, none⟩) 2 2) twoC 36 (fun p => rfl) ?_ ?_
      · rintro p L w1 ⟨hsz, hB, x, y, z, i, h_l1⟩ hk
        go_simp
        refine (TW.out _).mono ?_
        rintro e w2 ⟨b, rfl, hb, hle, hm⟩
        exact ⟨_, rfl, b, rfl, hb, hle, hm⟩
      rintro p L w1 w2 b ⟨hsz, hB, x, y, z, i, h_l1⟩ hk hb hle hm
      refine ⟨Nat.le_trans hsz hm.size, hB.trans (hm.mono (Nat.le_trans hW0 hsz)), x.below hm x.lt, y.below hm y.lt, z.below hm z.lt, i.below hm i.lt, fun _ => ⟨Nat.le_trans hsz hle, ?_⟩⟩
      exact hb
    refine stepD 2 rfl (fun p => rfl) (fun _ _ _ h => h) more ?_ ?_
    · rintro p L w1 ⟨hsz, hB, x, y, z, i, h_l1⟩ hk
      have hh_l1 := (h_l1 (hk.2.1 1 rfl)).2
      go_simp
      refine (R1.out _ _ hh_l1).mono ?_
      rintro e w2 ⟨rfl, h2⟩
      first | exact ⟨rfl, h2⟩ | (subst h2; exact ⟨rfl, Below.refl _ _⟩)
    iterate 5 (refine stepV _ rfl rfl (fun _ _ _ h => h) (by intros; go_simp; exact ⟨rfl, rfl⟩) ?_)
    exact AllI.nil
  case hV0 =>
    intro p q
    refine AllI.cons ?_ ?_
    · skip
      iterate 8 (refine AllI.cons (by first | exact .inl rfl | (refine .inr ?_; simp only [List.getD_cons_zero, List.getD_cons_succ]; done) | exact .inr rfl) ?_)
      exact AllI.nil
    exact AllI.nil
  case he =>
  clear hB x y z i
  rintro p wrrr ⟨hsz, hB, x, y, z, i, h_l1⟩
  obtain ⟨le_l1, l1⟩ := h_l1 rfl
  clear h_l1
  replace l1 : blk wrrr (p 1) twoC 36 := l1
  have ne_x_l1 : x_b ≠ p 1 := Nat.ne_of_lt (Nat.lt_of_lt_of_le lt_x le_l1)
  have ne_y_l1 : y_b ≠ p 1 := Nat.ne_of_lt (Nat.lt_of_lt_of_le lt_y le_l1)
  have ne_z_l1 : z_b ≠ p 1 := Nat.ne_of_lt (Nat.lt_of_lt_of_le lt_z le_l1)
  have ne_i_l1 : i_b ≠ p 1 := Nat.ne_of_lt (Nat.lt_of_lt_of_le lt_i le_l1)
  have ge_l1 : w.heap.size ≤ p 1 := Nat.le_trans hW0 le_l1
  generalize p 1 = l1_b at *
  clear lt_x
  clear lt_y
  clear lt_z
  clear lt_i
  clear hsz hW0
  clear R1 l1
  go_upto_region 4 with (fail)
  have lt_x := x.lt
  have lt_y := y.lt
  have lt_z := z.lt
  have lt_i := i.lt
  have hW0 : w.heap.size ≤ wrrr.heap.size := by have := hB.size; first | exact this | simpa using this
  apply wp_region_Q 14 [0, 1, 3, 7, 15, 31, 63, 127, 255, 511, 1023, 2047, 4095, 8191] [6, 11] [_, _, _, _, _, _, (fun p => (fun b => .slice (some ⟨b, 0, none⟩) 2 2) (p 6)), _, _, _, _, (fun p => .pointer (some ⟨p 11, 0, none⟩)), (fun _ => undef), _] (fun p L w' => wrrr.heap.size ≤ w'.heap.size ∧ Below w.heap.size w w' ∧ blk w' x_b #[.int .i64 1073741824, .int .i64 0, .int .i64 0] 31 ∧ blk w' y_b #[.int .i64 0, .int .i64 1073741824, .int .i64 0] 31 ∧ blk w' z_b #[.int .i64 0, .int .i64 0, .int .i64 1073741824] 31 ∧ blk w' i_b #[.int .i64 1073741824, .int .i64 0, .int .i64 0, .int .i64 0] 23 ∧ (L 6 = true → wrrr.heap.size ≤ p 6 ∧ blk w' (p 6) #[.int .i64 0, .int .i64 1073741824, .int .i64 0, .int .i64 1073741824, .int .i64 0, .int .i64 0, .int .i64 1, .int .i64 0, .int .i64 0, .int .i64 1073741824, .int .i64 0, .int .i64 0, .int .i64 1073741824, .int .i64 1] 36) ∧ (L 11 = true → wrrr.heap.size ≤ p 11 ∧ blk w' (p 11) (bif L 12 then (qfn (of4 759250125 0 0 759250125)) else (qfn fun _ => 0)) 23) ∧ (L 6 = true → L 11 = true → p 6 ≠ p 11)) _ [(0, 32), (1, 33), (2, 34), (3, 35), (4, 36), (5, 37), (6, 38), (7, 39), (8, 31), (9, 40), (10, 41), (11, 7), (13, 8)] [0, 1, 2, 3, 4, 5, 6, 7, 8, 9, 10, 11, 12, 13]
  case hn => rfl
  case hB => kernel_rfl
  case hds => kernel_rfl
  case hA => (intro p; simp only [putsD, Act.put, List.setIfInBounds_toArray, List.set_cons_zero, List.set_cons_succ, List.getD_cons_zero, List.getD_cons_succ]; exact rfl)
  case h0 => exact fun p => ⟨Nat.le_refl _, hB, x, y, z, i, fun h => absurd h (by decide), fun h => absurd h (by decide), fun h => absurd h (by decide)⟩
  case hmore => exact fun p L w1 w2 ⟨hsz, hB, x, y, z, i, h_l2, h_c, hne_l2_c⟩ hm => ⟨Nat.le_trans hsz hm.size, hB.trans (hm.mono (Nat.le_trans hW0 hsz)), x.below hm x.lt, y.below hm y.lt, z.below hm z.lt, i.below hm i.lt, fun hl => ⟨(h_l2 hl).1, (h_l2 hl).2.below hm (h_l2 hl).2.lt⟩, fun hl => ⟨(h_c hl).1, (h_c hl).2.below hm (h_c hl).2.lt⟩, hne_l2_c⟩
  case hs =>
    intro more
    refine stepV 0 rfl rfl (fun _ _ _ h => h) ?_ ?_
    · rintro p L w1 ⟨hsz, hB, x, y, z, i, h_l2, h_c, hne_l2_c⟩ hk
      have L12 : L 12 = false := hk.2.2 12 rfl
      first | exact valR_row _ _ rfl _ rfl _ _ y _ Try.underlying31 rfl (by first | kernel_rfl | (rw [vfn_size]; kernel_rfl)) rfl | (have hc := y.cellIs (show _[0]? = some _ from rfl); go_simp; exact ⟨rfl, rfl⟩)
    refine stepV 1 rfl rfl (fun _ _ _ h => h) ?_ ?_
    · rintro p L w1 ⟨hsz, hB, x, y, z, i, h_l2, h_c, hne_l2_c⟩ hk
      have L12 : L 12 = false := hk.2.2 12 rfl
      first | exact valR_row _ _ rfl _ rfl _ _ x _ Try.underlying31 rfl (by first | kernel_rfl | (rw [vfn_size]; kernel_rfl)) rfl | (have hc := x.cellIs (show _[0]? = some _ from rfl); go_simp; exact ⟨rfl, rfl⟩)
    refine stepV 2 rfl rfl (fun _ _ _ h => h) ?_ ?_
    · intros; (try simp only [vfn, qfn]); go_simp; exact ⟨rfl, rfl⟩
    refine stepV 3 rfl rfl (fun _ _ _ h => h) ?_ ?_
    · rintro p L w1 ⟨hsz, hB, x, y, z, i, h_l2, h_c, hne_l2_c⟩ hk
      have L12 : L 12 = false := hk.2.2 12 rfl
      first | exact valR_row _ _ rfl _ rfl _ _ z _ Try.underlying31 rfl (by first | kernel_rfl | (rw [vfn_size]; kernel_rfl)) rfl | (have hc := z.cellIs (show _[0]? = some _ from rfl); go_simp; exact ⟨rfl, rfl⟩)
    refine stepV 4 rfl rfl (fun _ _ _ h => h) ?_ ?_
    · rintro p L w1 ⟨hsz, hB, x, y, z, i, h_l2, h_c, hne_l2_c⟩ hk
      have L12 : L 12 = false := hk.2.2 12 rfl
      first | exact valR_row _ _ rfl _ rfl _ _ z _ Try.underlying31 rfl (by first | kernel_rfl | (rw [vfn_size]; kernel_rfl)) rfl | (have hc := z.cellIs (show _[0]? = some _ from rfl); go_simp; exact ⟨rfl, rfl⟩)
    refine stepV 5 rfl rfl (fun _ _ _ h => h) ?_ ?_
    · intros; (try simp only [vfn, qfn]); go_simp; exact ⟨rfl, rfl⟩
    refine AllI.cons ?_ ?_
    · refine stepI_fresh 6 rfl (fun p => rfl) rfl (fun b => .slice (some ⟨b, 0, none⟩) 2 2) (fun p => #[.int .i64 0, .int .i64 1073741824, .int .i64 0, .int .i64 1073741824, .int .i64 0, .int .i64 0, .int .i64 1, .int .i64 0, .int .i64 0, .int .i64 1073741824, .int .i64 0, .int .i64 0, .int .i64 1073741824, .int .i64 1]) 36 (fun p => rfl) ?_ ?_
      · intro p w1
        try simp only [vfn, qfn]
        go_simp
        try rfl
      rintro p L w1 ⟨hsz, hB, x, y, z, i, h_l2, h_c, hne_l2_c⟩ hk
      have L12 : L 12 = false := hk.2.2 12 rfl
      refine ⟨Nat.le_trans hsz (by simp), hB.alloc (Nat.le_trans (by first | exact hW0 | (have := hB.size; simp at this ⊢; omega)) hsz) _, x.alloc _, y.alloc _, z.alloc _, i.alloc _, fun _ => ⟨hsz, ?_⟩, fun hl => absurd hl (by rw [show upL L 6 11 = false from hk.2.2 11 rfl]; decide), fun _ hl => absurd hl (by rw [show upL L 6 11 = false from hk.2.2 11 rfl]; decide)⟩
      exact blk.new _ _ _
    refine stepD 7 rfl (fun p => rfl) (fun _ _ _ h => h) more ?_ ?_
    · rintro p L w1 ⟨hsz, hB, x, y, z, i, h_l2, h_c, hne_l2_c⟩ hk
      have L12 : L 12 = false := hk.2.2 12 rfl
      have hh_l2 := (h_l2 (hk.2.1 6 rfl)).2
      go_simp
      refine (S1.out _ _ hh_l2).mono ?_
      rintro e w2 ⟨rfl, h2⟩
      first | exact ⟨rfl, h2⟩ | (subst h2; exact ⟨rfl, Below.refl _ _⟩)
    iterate 3 (refine stepV _ rfl rfl (fun _ _ _ h => h) (by intros; go_simp; exact ⟨rfl, rfl⟩) ?_)
    refine AllI.cons ?_ ?_
    · refine stepI_alloc 11 rfl (fun p => rfl) rfl (qfn fun _ => 0) 23 (fun p => rfl) ?_ ?_
      · intro p w1
        go_simp
        first | done | rfl | rw [zero_quat]
      rintro p L w1 ⟨hsz, hB, x, y, z, i, h_l2, h_c, hne_l2_c⟩ hk
      have L12 : L 12 = false := hk.2.2 12 rfl
      refine ⟨Nat.le_trans hsz (by simp), hB.alloc (Nat.le_trans (by first | exact hW0 | (have := hB.size; simp at this ⊢; omega)) hsz) _, x.alloc _, y.alloc _, z.alloc _, i.alloc _, fun hl => ⟨(h_l2 hl).1, (h_l2 hl).2.alloc _⟩, fun _ => ⟨hsz, ?_⟩, fun hl _ => Nat.ne_of_lt (h_l2 hl).2.lt⟩
      rw [show upL L 11 12 = false from L12]
      exact blk.new _ _ _
    refine AllI.cons ?_ ?_
    · refine stepI_store 12 rfl (fun p => rfl) (fun p => rfl) _ _ _ rfl (fun p => p 11) 0 (fun p => rfl) (fun p => (qfn (of4 759250125 0 0 759250125))) (fun p => rfl) (fun p => (qfn fun _ => 0)) (fun p => (qfn (of4 759250125 0 0 759250125))) 23 (fun p => over_q' _ _) (fun p => by first | (rw [qfn_size, qfn_size]; decide) | simp [qfn_size, qfn_size]) (fun p => by rw [qfn_size]; kernel_rfl) (fun p => qfn_one _) ?_ ?_
      · rintro p L w1 ⟨hsz, hB, x, y, z, i, h_l2, h_c, hne_l2_c⟩ hk
        have L12 : L 12 = false := hk.1
        have hh := (h_c (hk.2.1 11 rfl)).2
        rw [L12] at hh
        try simp only [cond_true, cond_false] at hh
        exact hh
      · rintro p L w1 ⟨hsz, hB, x, y, z, i, h_l2, h_c, hne_l2_c⟩ hk
        have L12 : L 12 = false := hk.1
        skip
        have hp := h_c (hk.2.1 11 rfl)
        refine ⟨(by simpa using hsz), Below.setRow hB (by first | exact Nat.le_trans hW0 hp.1 | exact ge_c | omega | (have := hB.size; simp at this ⊢; omega)) _, x.rowOther (by first | exact Nat.ne_of_lt (Nat.lt_of_lt_of_le lt_x hp.1) | omega) _, y.rowOther (by first | exact Nat.ne_of_lt (Nat.lt_of_lt_of_le lt_y hp.1) | omega) _, z.rowOther (by first | exact Nat.ne_of_lt (Nat.lt_of_lt_of_le lt_z hp.1) | omega) _, i.rowOther (by first | exact Nat.ne_of_lt (Nat.lt_of_lt_of_le lt_i hp.1) | omega) _, fun hl => ⟨(h_l2 hl).1, (h_l2 hl).2.rowOther (hne_l2_c hl (hk.2.1 11 rfl)) _⟩, fun _ => ⟨hp.1, ?_⟩, hne_l2_c⟩
        rw [show upL L 12 12 = true from rfl]
        exact hp.2.row _
    refine stepV _ rfl rfl (fun _ _ _ h => h) (by intros; go_simp; exact ⟨rfl, rfl⟩) ?_
    exact AllI.nil
  case hV0 =>
    intro p q
    refine AllI.cons ?_ ?_
    · skip
      iterate 14 (refine AllI.cons (by first | exact .inl rfl | (refine .inr ?_; simp only [List.getD_cons_zero, List.getD_cons_succ]; done) | exact .inr rfl) ?_)
      exact AllI.nil
    refine AllI.cons ?_ ?_
    · skip
      iterate 14 (refine AllI.cons (by first | exact .inl rfl | (refine .inr ?_; simp only [List.getD_cons_zero, List.getD_cons_succ]; done) | exact .inr rfl) ?_)
      exact AllI.nil
    exact AllI.nil
  case he =>
  clear hB x y z i
  rintro p wrrrr ⟨hsz, hB, x, y, z, i, h_l2, h_c, hne_l2_c⟩
  obtain ⟨le_l2, l2⟩ := h_l2 rfl
  clear h_l2
  obtain ⟨le_c, c⟩ := h_c rfl
  clear h_c
  have ne_l2_c : p 6 ≠ p 11 := hne_l2_c rfl rfl
  clear hne_l2_c
  replace l2 : blk wrrrr (p 6) #[.int .i64 0, .int .i64 1073741824, .int .i64 0, .int .i64 1073741824, .int .i64 0, .int .i64 0, .int .i64 1, .int .i64 0, .int .i64 0, .int .i64 1073741824, .int .i64 0, .int .i64 0, .int .i64 1073741824, .int .i64 1] 36 := l2
  replace c : blk wrrrr (p 11) (qfn (of4 759250125 0 0 759250125)) 23 := c
  have ne_x_l2 : x_b ≠ p 6 := Nat.ne_of_lt (Nat.lt_of_lt_of_le lt_x le_l2)
  have ne_y_l2 : y_b ≠ p 6 := Nat.ne_of_lt (Nat.lt_of_lt_of_le lt_y le_l2)
  have ne_z_l2 : z_b ≠ p 6 := Nat.ne_of_lt (Nat.lt_of_lt_of_le lt_z le_l2)
  have ne_i_l2 : i_b ≠ p 6 := Nat.ne_of_lt (Nat.lt_of_lt_of_le lt_i le_l2)
  have ge_l2 : w.heap.size ≤ p 6 := Nat.le_trans hW0 le_l2
  have ne_x_c : x_b ≠ p 11 := Nat.ne_of_lt (Nat.lt_of_lt_of_le lt_x le_c)
  have ne_y_c : y_b ≠ p 11 := Nat.ne_of_lt (Nat.lt_of_lt_of_le lt_y le_c)
  have ne_z_c : z_b ≠ p 11 := Nat.ne_of_lt (Nat.lt_of_lt_of_le lt_z le_c)
  have ne_i_c : i_b ≠ p 11 := Nat.ne_of_lt (Nat.lt_of_lt_of_le lt_i le_c)
  have ge_c : w.heap.size ≤ p 11 := Nat.le_trans hW0 le_c
  generalize p 6 = l2_b at *
  generalize p 11 = c_b at *
  clear lt_x
  clear lt_y
  clear lt_z
  clear lt_i
  clear hsz hW0
  clear S1 l2
  go_upto_region 5 with (fail)
  have lt_x := x.lt
  have lt_y := y.lt
  have lt_z := z.lt
  have lt_i := i.lt
  have lt_c := c.lt
  have hW0 : w.heap.size ≤ wrrrr.heap.size := by have := hB.size; first | exact this | simpa using this
  apply wp_region_Q 9 [0, 1, 3, 7, 15, 31, 63, 127, 255] [0, 6] [(fun p => (fun b => .slice (some ⟨b, 0, none⟩) 2 2) (p 0)), _, _, _, _, _, (fun p => .pointer (some ⟨p 6, 0, none⟩)), (fun _ => undef), _] (fun p L w' => wrrrr.heap.size ≤ w'.heap.size ∧ Below w.heap.size w w' ∧ blk w' x_b #[.int .i64 1073741824, .int .i64 0, .int .i64 0] 31 ∧ blk w' y_b #[.int .i64 0, .int .i64 1073741824, .int .i64 0] 31 ∧ blk w' z_b #[.int .i64 0, .int .i64 0, .int .i64 1073741824] 31 ∧ blk w' i_b #[.int .i64 1073741824, .int .i64 0, .int .i64 0, .int .i64 0] 23 ∧ blk w' c_b (qfn (of4 759250125 0 0 759250125)) 23 ∧ (L 0 = true → wrrrr.heap.size ≤ p 0 ∧ blk w' (p 0) twoC 36) ∧ (L 6 = true → wrrrr.heap.size ≤ p 6 ∧ blk w' (p 6) (bif L 7 then (qfn V1) else (qfn fun _ => 0)) 23) ∧ (L 0 = true → L 6 = true → p 0 ≠ p 6)) _ [(0, 43), (1, 44), (2, 45), (3, 42), (4, 46), (5, 47), (6, 9), (8, 10)] [0, 1, 2, 3, 4, 5, 6, 7, 8]
  case hn => rfl
  case hB => kernel_rfl
  case hds => kernel_rfl
  case hA => (intro p; simp only [putsD, Act.put, List.setIfInBounds_toArray, List.set_cons_zero, List.set_cons_succ, List.getD_cons_zero, List.getD_cons_succ]; exact rfl)
  case h0 => exact fun p => ⟨Nat.le_refl _, hB, x, y, z, i, c, fun h => absurd h (by decide), fun h => absurd h (by decide), fun h => absurd h (by decide)⟩
  case hmore => exact fun p L w1 w2 ⟨hsz, hB, x, y, z, i, c, h_l3, h_e, hne_l3_e⟩ hm => ⟨Nat.le_trans hsz hm.size, hB.trans (hm.mono (Nat.le_trans hW0 hsz)), x.below hm x.lt, y.below hm y.lt, z.below hm z.lt, i.below hm i.lt, c.below hm c.lt, fun hl => ⟨(h_l3 hl).1, (h_l3 hl).2.below hm (h_l3 hl).2.lt⟩, fun hl => ⟨(h_e hl).1, (h_e hl).2.below hm (h_e hl).2.lt⟩, hne_l3_e⟩
  case hs =>
    intro more
    refine AllI.cons ?_ ?_
    · refine stepI_new 0 rfl (fun p => rfl) rfl (fun b => .slice (some ⟨b, 0, none⟩) 2 2) twoC 36 (fun p => rfl) ?_ ?_
      · rintro p L w1 ⟨hsz, hB, x, y, z, i, c, h_l3, h_e, hne_l3_e⟩ hk
        go_simp
        refine (TW.out _).mono ?_
        rintro e w2 ⟨b, rfl, hb, hle, hm⟩
        exact ⟨_, rfl, b, rfl, hb, hle, hm⟩
      rintro p L w1 w2 b ⟨hsz, hB, x, y, z, i, c, h_l3, h_e, hne_l3_e⟩ hk hb hle hm
      have L7 : L 7 = false := hk.2.2 7 rfl
      refine ⟨Nat.le_trans hsz hm.size, hB.trans (hm.mono (Nat.le_trans hW0 hsz)), x.below hm x.lt, y.below hm y.lt, z.below hm z.lt, i.below hm i.lt, c.below hm c.lt, fun _ => ⟨Nat.le_trans hsz hle, ?_⟩, fun hl => absurd hl (by rw [show upL L 0 6 = false from hk.2.2 6 rfl]; decide), fun _ hl => absurd hl (by rw [show upL L 0 6 = false from hk.2.2 6 rfl]; decide)⟩
      exact hb
    refine stepV _ rfl rfl (fun _ _ _ h => h) (by intros; go_simp; exact ⟨rfl, rfl⟩) ?_
    refine stepD 2 rfl (fun p => rfl) (fun _ _ _ h => h) more ?_ ?_
    · rintro p L w1 ⟨hsz, hB, x, y, z, i, c, h_l3, h_e, hne_l3_e⟩ hk
      have L7 : L 7 = false := hk.2.2 7 rfl
      have hh_l3 := (h_l3 (hk.2.1 0 rfl)).2
      go_simp
      refine (S2.out _ _ hh_l3).mono ?_
      rintro e w2 ⟨rfl, h2⟩
      first | exact ⟨rfl, h2⟩ | (subst h2; exact ⟨rfl, Below.refl _ _⟩)
    iterate 3 (refine stepV _ rfl rfl (fun _ _ _ h => h) (by intros; go_simp; exact ⟨rfl, rfl⟩) ?_)
    refine AllI.cons ?_ ?_
    · refine stepI_alloc 6 rfl (fun p => rfl) rfl (qfn fun _ => 0) 23 (fun p => rfl) ?_ ?_
      · intro p w1
        go_simp
        first | done | rfl | rw [zero_quat]
      rintro p L w1 ⟨hsz, hB, x, y, z, i, c, h_l3, h_e, hne_l3_e⟩ hk
      have L7 : L 7 = false := hk.2.2 7 rfl
      refine ⟨Nat.le_trans hsz (by simp), hB.alloc (Nat.le_trans (by first | exact hW0 | (have := hB.size; simp at this ⊢; omega)) hsz) _, x.alloc _, y.alloc _, z.alloc _, i.alloc _, c.alloc _, fun hl => ⟨(h_l3 hl).1, (h_l3 hl).2.alloc _⟩, fun _ => ⟨hsz, ?_⟩, fun hl _ => Nat.ne_of_lt (h_l3 hl).2.lt⟩
      rw [show upL L 6 7 = false from L7]
      exact blk.new _ _ _
    refine AllI.cons ?_ ?_
    · refine stepI_store 7 rfl (fun p => rfl) (fun p => rfl) _ _ _ rfl (fun p => p 6) 0 (fun p => rfl) (fun p => (qfn V1)) (fun p => rfl) (fun p => (qfn fun _ => 0)) (fun p => (qfn V1)) 23 (fun p => over_q' _ _) (fun p => by first | (rw [qfn_size, qfn_size]; decide) | simp [qfn_size, qfn_size]) (fun p => by rw [qfn_size]; kernel_rfl) (fun p => qfn_one _) ?_ ?_
      · rintro p L w1 ⟨hsz, hB, x, y, z, i, c, h_l3, h_e, hne_l3_e⟩ hk
        have L7 : L 7 = false := hk.1
        have hh := (h_e (hk.2.1 6 rfl)).2
        rw [L7] at hh
        try simp only [cond_true, cond_false] at hh
        exact hh
      · rintro p L w1 ⟨hsz, hB, x, y, z, i, c, h_l3, h_e, hne_l3_e⟩ hk
        have L7 : L 7 = false := hk.1
        skip
        have hp := h_e (hk.2.1 6 rfl)
        refine ⟨(by simpa using hsz), Below.setRow hB (by first | exact Nat.le_trans hW0 hp.1 | exact ge_e | omega | (have := hB.size; simp at this ⊢; omega)) _, x.rowOther (by first | exact Nat.ne_of_lt (Nat.lt_of_lt_of_le lt_x hp.1) | omega) _, y.rowOther (by first | exact Nat.ne_of_lt (Nat.lt_of_lt_of_le lt_y hp.1) | omega) _, z.rowOther (by first | exact Nat.ne_of_lt (Nat.lt_of_lt_of_le lt_z hp.1) | omega) _, i.rowOther (by first | exact Nat.ne_of_lt (Nat.lt_of_lt_of_le lt_i hp.1) | omega) _, c.rowOther (by first | exact Nat.ne_of_lt (Nat.lt_of_lt_of_le lt_c hp.1) | omega) _, fun hl => ⟨(h_l3 hl).1, (h_l3 hl).2.rowOther (hne_l3_e hl (hk.2.1 6 rfl)) _⟩, fun _ => ⟨hp.1, ?_⟩, hne_l3_e⟩
        rw [show upL L 7 7 = true from rfl]
        exact hp.2.row _
    refine stepV _ rfl rfl (fun _ _ _ h => h) (by intros; go_simp; exact ⟨rfl, rfl⟩) ?_
    exact AllI.nil
  case hV0 =>
    intro p q
    refine AllI.cons ?_ ?_
    · skip
      iterate 9 (refine AllI.cons (by first | exact .inl rfl | (refine .inr ?_; simp only [List.getD_cons_zero, List.getD_cons_succ]; done) | exact .inr rfl) ?_)
      exact AllI.nil
    refine AllI.cons ?_ ?_
    · skip
      iterate 9 (refine AllI.cons (by first | exact .inl rfl | (refine .inr ?_; simp only [List.getD_cons_zero, List.getD_cons_succ]; done) | exact .inr rfl) ?_)
      exact AllI.nil
    exact AllI.nil
  case he =>
  clear hB x y z i c
  rintro p wrrrrr ⟨hsz, hB, x, y, z, i, c, h_l3, h_e, hne_l3_e⟩
  obtain ⟨le_l3, l3⟩ := h_l3 rfl
  clear h_l3
  obtain ⟨le_e, e⟩ := h_e rfl
  clear h_e
  have ne_l3_e : p 0 ≠ p 6 := hne_l3_e rfl rfl
  clear hne_l3_e
  replace l3 : blk wrrrrr (p 0) twoC 36 := l3
  replace e : blk wrrrrr (p 6) (qfn V1) 23 := e
  have ne_x_l3 : x_b ≠ p 0 := Nat.ne_of_lt (Nat.lt_of_lt_of_le lt_x le_l3)
  have ne_y_l3 : y_b ≠ p 0 := Nat.ne_of_lt (Nat.lt_of_lt_of_le lt_y le_l3)
  have ne_z_l3 : z_b ≠ p 0 := Nat.ne_of_lt (Nat.lt_of_lt_of_le lt_z le_l3)
  have ne_i_l3 : i_b ≠ p 0 := Nat.ne_of_lt (Nat.lt_of_lt_of_le lt_i le_l3)
  have ne_c_l3 : c_b ≠ p 0 := Nat.ne_of_lt (Nat.lt_of_lt_of_le lt_c le_l3)
  have ge_l3 : w.heap.size ≤ p 0 := Nat.le_trans hW0 le_l3
  have ne_x_e : x_b ≠ p 6 := Nat.ne_of_lt (Nat.lt_of_lt_of_le lt_x le_e)
  have ne_y_e : y_b ≠ p 6 := Nat.ne_of_lt (Nat.lt_of_lt_of_le lt_y le_e)
  have ne_z_e : z_b ≠ p 6 := Nat.ne_of_lt (Nat.lt_of_lt_of_le lt_z le_e)
  have ne_i_e : i_b ≠ p 6 := Nat.ne_of_lt (Nat.lt_of_lt_of_le lt_i le_e)
  have ne_c_e : c_b ≠ p 6 := Nat.ne_of_lt (Nat.lt_of_lt_of_le lt_c le_e)
  have ge_e : w.heap.size ≤ p 6 := Nat.le_trans hW0 le_e
  generalize p 0 = l3_b at *
  generalize p 6 = e_b at *
  clear lt_x
  clear lt_y
  clear lt_z
  clear lt_i
  clear lt_c
  clear hsz hW0
  clear S2 l3 e
  go_upto_region 6 with (fail)
  have lt_x := x.lt
  have lt_y := y.lt
  have lt_z := z.lt
  have lt_i := i.lt
  have lt_c := c.lt
  have hW0 : w.heap.size ≤ wrrrrr.heap.size := by have := hB.size; first | exact this | simpa using this
  apply wp_region_Q 7 [0, 1, 3, 7, 15, 31, 63] [4] [_, _, _, _, (fun p => .pointer (some ⟨p 4, 0, none⟩)), (fun _ => undef), _] (fun p L w' => wrrrrr.heap.size ≤ w'.heap.size ∧ Below w.heap.size w w' ∧ blk w' x_b #[.int .i64 1073741824, .int .i64 0, .int .i64 0] 31 ∧ blk w' y_b #[.int .i64 0, .int .i64 1073741824, .int .i64 0] 31 ∧ blk w' z_b #[.int .i64 0, .int .i64 0, .int .i64 1073741824] 31 ∧ blk w' i_b #[.int .i64 1073741824, .int .i64 0, .int .i64 0, .int .i64 0] 23 ∧ blk w' c_b (qfn (of4 759250125 0 0 759250125)) 23 ∧ (L 4 = true → wrrrrr.heap.size ≤ p 4 ∧ blk w' (p 4) (bif L 5 then (qfn V0) else (qfn fun _ => 0)) 23)) _ [(0, 49), (1, 48), (2, 50), (3, 51), (4, 11), (6, 12)] [0, 1, 2, 3, 4, 5, 6]
  case hn => rfl
  case hB => kernel_rfl
  case hds => kernel_rfl
  case hA => (intro p; simp only [putsD, Act.put, List.setIfInBounds_toArray, List.set_cons_zero, List.set_cons_succ, List.getD_cons_zero, List.getD_cons_succ]; exact rfl)
  case h0 => exact fun p => ⟨Nat.le_refl _, hB, x, y, z, i, c, fun h => absurd h (by decide)⟩
  case hmore => exact fun p L w1 w2 ⟨hsz, hB, x, y, z, i, c, h_f⟩ hm => ⟨Nat.le_trans hsz hm.size, hB.trans (hm.mono (Nat.le_trans hW0 hsz)), x.below hm x.lt, y.below hm y.lt, z.below hm z.lt, i.below hm i.lt, c.below hm c.lt, fun hl => ⟨(h_f hl).1, (h_f hl).2.below hm (h_f hl).2.lt⟩⟩
  case hs =>
    intro more
    refine stepD 0 rfl (fun p => rfl) (fun _ _ _ h => h) more ?_ ?_
    · rintro p L w1 ⟨hsz, hB, x, y, z, i, c, h_f⟩ hk
      go_simp
      refine (S3.out _).mono ?_
      rintro e w2 ⟨rfl, h2⟩
      first | exact ⟨rfl, h2⟩ | (subst h2; exact ⟨rfl, Below.refl _ _⟩)
    iterate 3 (refine stepV _ rfl rfl (fun _ _ _ h => h) (by intros; go_simp; exact ⟨rfl, rfl⟩) ?_)
    refine AllI.cons ?_ ?_
    · refine stepI_alloc 4 rfl (fun p => rfl) rfl (qfn fun _ => 0) 23 (fun p => rfl) ?_ ?_
      · intro p w1
        go_simp
        first | done | rfl | rw [zero_quat]
      rintro p L w1 ⟨hsz, hB, x, y, z, i, c, h_f⟩ hk
      have L5 : L 5 = false := hk.2.2 5 rfl
      refine ⟨Nat.le_trans hsz (by simp), hB.alloc (Nat.le_trans (by first | exact hW0 | (have := hB.size; simp at this ⊢; omega)) hsz) _, x.alloc _, y.alloc _, z.alloc _, i.alloc _, c.alloc _, fun _ => ⟨hsz, ?_⟩⟩
      rw [show upL L 4 5 = false from L5]
      exact blk.new _ _ _
    refine AllI.cons ?_ ?_
    · refine stepI_store 5 rfl (fun p => rfl) (fun p => rfl) _ _ _ rfl (fun p => p 4) 0 (fun p => rfl) (fun p => (qfn V0)) (fun p => rfl) (fun p => (qfn fun _ => 0)) (fun p => (qfn V0)) 23 (fun p => over_q' _ _) (fun p => by first | (rw [qfn_size, qfn_size]; decide) | simp [qfn_size, qfn_size]) (fun p => by rw [qfn_size]; kernel_rfl) (fun p => qfn_one _) ?_ ?_
      · rintro p L w1 ⟨hsz, hB, x, y, z, i, c, h_f⟩ hk
        have L5 : L 5 = false := hk.1
        have hh := (h_f (hk.2.1 4 rfl)).2
        rw [L5] at hh
        try simp only [cond_true, cond_false] at hh
        exact hh
      · rintro p L w1 ⟨hsz, hB, x, y, z, i, c, h_f⟩ hk
        have L5 : L 5 = false := hk.1
        skip
        have hp := h_f (hk.2.1 4 rfl)
        refine ⟨(by simpa using hsz), Below.setRow hB (by first | exact Nat.le_trans hW0 hp.1 | exact ge_f | omega | (have := hB.size; simp at this ⊢; omega)) _, x.rowOther (by first | exact Nat.ne_of_lt (Nat.lt_of_lt_of_le lt_x hp.1) | omega) _, y.rowOther (by first | exact Nat.ne_of_lt (Nat.lt_of_lt_of_le lt_y hp.1) | omega) _, z.rowOther (by first | exact Nat.ne_of_lt (Nat.lt_of_lt_of_le lt_z hp.1) | omega) _, i.rowOther (by first | exact Nat.ne_of_lt (Nat.lt_of_lt_of_le lt_i hp.1) | omega) _, c.rowOther (by first | exact Nat.ne_of_lt (Nat.lt_of_lt_of_le lt_c hp.1) | omega) _, fun _ => ⟨hp.1, ?_⟩⟩
        rw [show upL L 5 5 = true from rfl]
        exact hp.2.row _
    refine stepV _ rfl rfl (fun _ _ _ h => h) (by intros; go_simp; exact ⟨rfl, rfl⟩) ?_
    exact AllI.nil
  case hV0 =>
    intro p q
    refine AllI.cons ?_ ?_
    · skip
      iterate 7 (refine AllI.cons (by first | exact .inl rfl | (refine .inr ?_; simp only [List.getD_cons_zero, List.getD_cons_succ]; done) | exact .inr rfl) ?_)
      exact AllI.nil
    exact AllI.nil
  case he =>
  clear hB x y z i c
  rintro p wrrrrrr ⟨hsz, hB, x, y, z, i, c, h_f⟩
  obtain ⟨le_f, f⟩ := h_f rfl
  clear h_f
  replace f : blk wrrrrrr (p 4) (qfn V0) 23 := f
  have ne_x_f : x_b ≠ p 4 := Nat.ne_of_lt (Nat.lt_of_lt_of_le lt_x le_f)
  have ne_y_f : y_b ≠ p 4 := Nat.ne_of_lt (Nat.lt_of_lt_of_le lt_y le_f)
  have ne_z_f : z_b ≠ p 4 := Nat.ne_of_lt (Nat.lt_of_lt_of_le lt_z le_f)
  have ne_i_f : i_b ≠ p 4 := Nat.ne_of_lt (Nat.lt_of_lt_of_le lt_i le_f)
  have ne_c_f : c_b ≠ p 4 := Nat.ne_of_lt (Nat.lt_of_lt_of_le lt_c le_f)
  have ge_f : w.heap.size ≤ p 4 := Nat.le_trans hW0 le_f
  generalize p 4 = f_b at *
  clear lt_x
  clear lt_y
  clear lt_z
  clear lt_i
  clear lt_c
  clear hsz hW0
  clear S3 f
  go_upto_region 7 with (fail)
  have lt_x := x.lt
  have lt_y := y.lt
  have lt_z := z.lt
  have lt_i := i.lt
  have lt_c := c.lt
  have hW0 : w.heap.size ≤ wrrrrrr.heap.size := by have := hB.size; first | exact this | simpa using this
  apply wp_region_Q 8 [0, 1, 3, 7, 15, 31, 63, 127] [0] [(fun p => (fun b => .slice (some ⟨b, 0, none⟩) 2 2) (p 0)), _, _, _, _, _, _, _] (fun p L w' => wrrrrrr.heap.size ≤ w'.heap.size ∧ Below w.heap.size w w' ∧ blk w' x_b #[.int .i64 1073741824, .int .i64 0, .int .i64 0] 31 ∧ blk w' y_b #[.int .i64 0, .int .i64 1073741824, .int .i64 0] 31 ∧ blk w' z_b #[.int .i64 0, .int .i64 0, .int .i64 1073741824] 31 ∧ blk w' i_b #[.int .i64 1073741824, .int .i64 0, .int .i64 0, .int .i64 0] 23 ∧ blk w' c_b (qfn (of4 759250125 0 0 759250125)) 23 ∧ (L 0 = true → wrrrrrr.heap.size ≤ p 0 ∧ blk w' (p 0) twoC 36)) _ [(0, 53), (1, 54), (2, 55), (3, 52), (4, 56), (5, 57), (6, 13), (7, 14)] [0, 1, 2, 3, 4, 5, 6, 7]
  case hn => rfl
  case hB => kernel_rfl
  case hds => kernel_rfl
  case hA => (intro p; simp only [putsD, Act.put, List.setIfInBounds_toArray, List.set_cons_zero, List.set_cons_succ, List.getD_cons_zero, List.getD_cons_succ]; exact rfl)
  case h0 => exact fun p => ⟨Nat.le_refl _, hB, x, y, z, i, c, fun h => absurd h (by decide)⟩
  case hmore => exact fun p L w1 w2 ⟨hsz, hB, x, y, z, i, c, h_l4⟩ hm => ⟨Nat.le_trans hsz hm.size, hB.trans (hm.mono (Nat.le_trans hW0 hsz)), x.below hm x.lt, y.below hm y.lt, z.below hm z.lt, i.below hm i.lt, c.below hm c.lt, fun hl => ⟨(h_l4 hl).1, (h_l4 hl).2.below hm (h_l4 hl).2.lt⟩⟩
  case hs =>
    intro more
    refine AllI.cons ?_ ?_
    · refine stepI_new 0 rfl (fun p => rfl) rfl (fun b => .slice (some ⟨b, 0, none⟩) 2 2) twoC 36 (fun p => rfl) ?_ ?_
      · rintro p L w1 ⟨hsz, hB, x, y, z, i, c, h_l4⟩ hk
        go_simp
        refine (TW.out _).mono ?_
        rintro e w2 ⟨b, rfl, hb, hle, hm⟩
        exact ⟨_, rfl, b, rfl, hb, hle, hm⟩
      rintro p L w1 w2 b ⟨hsz, hB, x, y, z, i, c, h_l4⟩ hk hb hle hm
      refine ⟨Nat.le_trans hsz hm.size, hB.trans (hm.mono (Nat.le_trans hW0 hsz)), x.below hm x.lt, y.below hm y.lt, z.below hm z.lt, i.below hm i.lt, c.below hm c.lt, fun _ => ⟨Nat.le_trans hsz hle, ?_⟩⟩
      exact hb
    refine stepV _ rfl rfl (fun _ _ _ h => h) (by intros; go_simp; exact ⟨rfl, rfl⟩) ?_
    refine stepD 2 rfl (fun p => rfl) (fun _ _ _ h => h) more ?_ ?_
    · rintro p L w1 ⟨hsz, hB, x, y, z, i, c, h_l4⟩ hk
      have hh_l4 := (h_l4 (hk.2.1 0 rfl)).2
      go_simp
      refine (P1.out _ _ hh_l4).mono ?_
      rintro e w2 ⟨rfl, h2⟩
      first | exact ⟨rfl, h2⟩ | (subst h2; exact ⟨rfl, Below.refl _ _⟩)
    iterate 5 (refine stepV _ rfl rfl (fun _ _ _ h => h) (by intros; go_simp; exact ⟨rfl, rfl⟩) ?_)
    exact AllI.nil
  case hV0 =>
    intro p q
    refine AllI.cons ?_ ?_
    · skip
      iterate 8 (refine AllI.cons (by first | exact .inl rfl | (refine .inr ?_; simp only [List.getD_cons_zero, List.getD_cons_succ]; done) | exact .inr rfl) ?_)
      exact AllI.nil
    exact AllI.nil
  case he =>
  clear hB x y z i c
  rintro p wrrrrrrr ⟨hsz, hB, x, y, z, i, c, h_l4⟩
  obtain ⟨le_l4, l4⟩ := h_l4 rfl
  clear h_l4
  replace l4 : blk wrrrrrrr (p 0) twoC 36 := l4
  have ne_x_l4 : x_b ≠ p 0 := Nat.ne_of_lt (Nat.lt_of_lt_of_le lt_x le_l4)
  have ne_y_l4 : y_b ≠ p 0 := Nat.ne_of_lt (Nat.lt_of_lt_of_le lt_y le_l4)
  have ne_z_l4 : z_b ≠ p 0 := Nat.ne_of_lt (Nat.lt_of_lt_of_le lt_z le_l4)
  have ne_i_l4 : i_b ≠ p 0 := Nat.ne_of_lt (Nat.lt_of_lt_of_le lt_i le_l4)
  have ne_c_l4 : c_b ≠ p 0 := Nat.ne_of_lt (Nat.lt_of_lt_of_le lt_c le_l4)
  have ge_l4 : w.heap.size ≤ p 0 := Nat.le_trans hW0 le_l4
  generalize p 0 = l4_b at *
  clear lt_x
  clear lt_y
  clear lt_z
  clear lt_i
  clear lt_c
  clear hsz hW0
  clear P1 l4
  go_upto_region 8 with (fail)
  have lt_x := x.lt
  have lt_y := y.lt
  have lt_z := z.lt
  have lt_i := i.lt
  have lt_c := c.lt
  have hW0 : w.heap.size ≤ wrrrrrrr.heap.size := by have := hB.size; first | exact this | simpa using this
  apply wp_region_Q 11 [0, 1, 3, 7, 15, 31, 63, 127, 255, 511, 1023] [4] [_, _, _, _, (fun p => (fun b => .slice (some ⟨b, 0, none⟩) 1 1) (p 4)), _, _, _, _, _, _] (fun p L w' => wrrrrrrr.heap.size ≤ w'.heap.size ∧ Below w.heap.size w w' ∧ blk w' x_b #[.int .i64 1073741824, .int .i64 0, .int .i64 0] 31 ∧ blk w' y_b #[.int .i64 0, .int .i64 1073741824, .int .i64 0] 31 ∧ blk w' z_b #[.int .i64 0, .int .i64 0, .int .i64 1073741824] 31 ∧ blk w' i_b #[.int .i64 1073741824, .int .i64 0, .int .i64 0, .int .i64 0] 23 ∧ blk w' c_b (qfn (of4 759250125 0 0 759250125)) 23 ∧ (L 4 = true → wrrrrrrr.heap.size ≤ p 4 ∧ blk w' (p 4) #[.int .i64 1073741824, .int .i64 0, .int .i64 0, .int .i64 (-1073741824), .int .i64 0, .int .i64 0, .int .i64 7] 36)) _ [(0, 59), (1, 60), (2, 61), (3, 62), (4, 63), (5, 64), (6, 58), (7, 65), (8, 66), (9, 15), (10, 16)] [0, 1, 2, 3, 4, 5, 6, 7, 8, 9, 10]
  case hn => rfl
  case hB => kernel_rfl
  case hds => kernel_rfl
  case hA => (intro p; simp only [putsD, Act.put, List.setIfInBounds_toArray, List.set_cons_zero, List.set_cons_succ, List.getD_cons_zero, List.getD_cons_succ]; exact rfl)
  case h0 => exact fun p => ⟨Nat.le_refl _, hB, x, y, z, i, c, fun h => absurd h (by decide)⟩
  case hmore => exact fun p L w1 w2 ⟨hsz, hB, x, y, z, i, c, h_l5⟩ hm => ⟨Nat.le_trans hsz hm.size, hB.trans (hm.mono (Nat.le_trans hW0 hsz)), x.below hm x.lt, y.below hm y.lt, z.below hm z.lt, i.below hm i.lt, c.below hm c.lt, fun hl => ⟨(h_l5 hl).1, (h_l5 hl).2.below hm (h_l5 hl).2.lt⟩⟩
  case hs =>
    intro more
    refine stepV 0 rfl rfl (fun _ _ _ h => h) ?_ ?_
    · rintro p L w1 ⟨hsz, hB, x, y, z, i, c, h_l5⟩ hk
      first | exact valR_row _ _ rfl _ rfl _ _ i _ Try.underlying23 rfl (by first | kernel_rfl | (rw [qfn_size]; kernel_rfl)) rfl | (have hc := i.cellIs (show _[0]? = some _ from rfl); go_simp; exact ⟨rfl, rfl⟩)
    refine stepV 1 rfl rfl (fun _ _ _ h => h) ?_ ?_
    · rintro p L w1 ⟨hsz, hB, x, y, z, i, c, h_l5⟩ hk
      first | exact valR_row _ _ rfl _ rfl _ _ x _ Try.underlying31 rfl (by first | kernel_rfl | (rw [vfn_size]; kernel_rfl)) rfl | (have hc := x.cellIs (show _[0]? = some _ from rfl); go_simp; exact ⟨rfl, rfl⟩)
    refine stepV 2 rfl rfl (fun _ _ _ h => h) ?_ ?_
    · intros; (try simp only [vfn, qfn]); go_simp; exact ⟨rfl, rfl⟩
    refine stepV 3 rfl rfl (fun _ _ _ h => h) ?_ ?_
    · intros; (try simp only [vfn, qfn]); go_simp; exact ⟨rfl, rfl⟩
    refine AllI.cons ?_ ?_
    · refine stepI_fresh 4 rfl (fun p => rfl) rfl (fun b => .slice (some ⟨b, 0, none⟩) 1 1) (fun p => #[.int .i64 1073741824, .int .i64 0, .int .i64 0, .int .i64 (-1073741824), .int .i64 0, .int .i64 0, .int .i64 7]) 36 (fun p => rfl) ?_ ?_
      · intro p w1
        try simp only [vfn, qfn]
        go_simp
        try rfl
      rintro p L w1 ⟨hsz, hB, x, y, z, i, c, h_l5⟩ hk
      refine ⟨Nat.le_trans hsz (by simp), hB.alloc (Nat.le_trans (by first | exact hW0 | (have := hB.size; simp at this ⊢; omega)) hsz) _, x.alloc _, y.alloc _, z.alloc _, i.alloc _, c.alloc _, fun _ => ⟨hsz, ?_⟩⟩
      exact blk.new _ _ _
    refine stepD 5 rfl (fun p => rfl) (fun _ _ _ h => h) more ?_ ?_
    · rintro p L w1 ⟨hsz, hB, x, y, z, i, c, h_l5⟩ hk
      have hh_l5 := (h_l5 (hk.2.1 4 rfl)).2
      go_simp
      refine (R2.out _ _ hh_l5).mono ?_
      rintro e w2 ⟨rfl, h2⟩
      first | exact ⟨rfl, h2⟩ | (subst h2; exact ⟨rfl, Below.refl _ _⟩)
    iterate 5 (refine stepV _ rfl rfl (fun _ _ _ h => h) (by intros; go_simp; exact ⟨rfl, rfl⟩) ?_)
    exact AllI.nil
  case hV0 =>
    intro p q
    refine AllI.cons ?_ ?_
    · skip
      iterate 11 (refine AllI.cons (by first | exact .inl rfl | (refine .inr ?_; simp only [List.getD_cons_zero, List.getD_cons_succ]; done) | exact .inr rfl) ?_)
      exact AllI.nil
    exact AllI.nil
  case he =>
  clear hB x y z i c
  rintro p wrrrrrrrr ⟨hsz, hB, x, y, z, i, c, h_l5⟩
  obtain ⟨le_l5, l5⟩ := h_l5 rfl
  clear h_l5
  replace l5 : blk wrrrrrrrr (p 4) #[.int .i64 1073741824, .int .i64 0, .int .i64 0, .int .i64 (-1073741824), .int .i64 0, .int .i64 0, .int .i64 7] 36 := l5
  have ne_x_l5 : x_b ≠ p 4 := Nat.ne_of_lt (Nat.lt_of_lt_of_le lt_x le_l5)
  have ne_y_l5 : y_b ≠ p 4 := Nat.ne_of_lt (Nat.lt_of_lt_of_le lt_y le_l5)
  have ne_z_l5 : z_b ≠ p 4 := Nat.ne_of_lt (Nat.lt_of_lt_of_le lt_z le_l5)
  have ne_i_l5 : i_b ≠ p 4 := Nat.ne_of_lt (Nat.lt_of_lt_of_le lt_i le_l5)
  have ne_c_l5 : c_b ≠ p 4 := Nat.ne_of_lt (Nat.lt_of_lt_of_le lt_c le_l5)
  have ge_l5 : w.heap.size ≤ p 4 := Nat.le_trans hW0 le_l5
  generalize p 4 = l5_b at *
  clear lt_x
  clear lt_y
  clear lt_z
  clear lt_i
  clear lt_c
  clear hsz hW0
  clear R2 l5
  go_upto_region 9 with (fail)
  have lt_x := x.lt
  have lt_y := y.lt
  have lt_z := z.lt
  have lt_i := i.lt
  have lt_c := c.lt
  have hW0 : w.heap.size ≤ wrrrrrrrr.heap.size := by have := hB.size; first | exact this | simpa using this
  apply wp_region_Q 11 [0, 1, 3, 7, 15, 31, 63, 127, 255, 511, 1023] [3, 8] [_, _, _, (fun p => (fun b => .slice (some ⟨b, 0, none⟩) 1 1) (p 3)), _, _, _, _, (fun p => .pointer (some ⟨p 8, 0, none⟩)), (fun _ => undef), _] (fun p L w' => wrrrrrrrr.heap.size ≤ w'.heap.size ∧ Below w.heap.size w w' ∧ blk w' x_b #[.int .i64 1073741824, .int .i64 0, .int .i64 0] 31 ∧ blk w' y_b #[.int .i64 0, .int .i64 1073741824, .int .i64 0] 31 ∧ blk w' z_b #[.int .i64 0, .int .i64 0, .int .i64 1073741824] 31 ∧ blk w' i_b #[.int .i64 1073741824, .int .i64 0, .int .i64 0, .int .i64 0] 23 ∧ blk w' c_b (qfn (of4 759250125 0 0 759250125)) 23 ∧ (L 3 = true → wrrrrrrrr.heap.size ≤ p 3 ∧ blk w' (p 3) #[.int .i64 1073741824, .int .i64 0, .int .i64 0, .int .i64 1073741824, .int .i64 0, .int .i64 0, .int .i64 0] 36) ∧ (L 8 = true → wrrrrrrrr.heap.size ≤ p 8 ∧ blk w' (p 8) (bif L 9 then (tbn MV) else (tbn fun _ => 0)) 38) ∧ (L 3 = true → L 8 = true → p 3 ≠ p 8)) _ [(0, 68), (1, 69), (2, 70), (3, 71), (4, 72), (5, 67), (6, 73), (7, 74), (8, 17), (10, 18)] [0, 1, 2, 3, 4, 5, 6, 7, 8, 9, 10]
  case hn => rfl
  case hB => kernel_rfl
  case hds => kernel_rfl
  case hA => (intro p; simp only [putsD, Act.put, List.setIfInBounds_toArray, List.set_cons_zero, List.set_cons_succ, List.getD_cons_zero, List.getD_cons_succ]; exact rfl)
  case h0 => exact fun p => ⟨Nat.le_refl _, hB, x, y, z, i, c, fun h => absurd h (by decide), fun h => absurd h (by decide), fun h => absurd h (by decide)⟩
  case hmore => exact fun p L w1 w2 ⟨hsz, hB, x, y, z, i, c, h_l6, h_m, hne_l6_m⟩ hm => ⟨Nat.le_trans hsz hm.size, hB.trans (hm.mono (Nat.le_trans hW0 hsz)), x.below hm x.lt, y.below hm y.lt, z.below hm z.lt, i.below hm i.lt, c.below hm c.lt, fun hl => ⟨(h_l6 hl).1, (h_l6 hl).2.below hm (h_l6 hl).2.lt⟩, fun hl => ⟨(h_m hl).1, (h_m hl).2.below hm (h_m hl).2.lt⟩, hne_l6_m⟩
  case hs =>
    intro more
    refine stepV 0 rfl rfl (fun _ _ _ h => h) ?_ ?_
    · rintro p L w1 ⟨hsz, hB, x, y, z, i, c, h_l6, h_m, hne_l6_m⟩ hk
      have L9 : L 9 = false := hk.2.2 9 rfl
      first | exact valR_row _ _ rfl _ rfl _ _ x _ Try.underlying31 rfl (by first | kernel_rfl | (rw [vfn_size]; kernel_rfl)) rfl | (have hc := x.cellIs (show _[0]? = some _ from rfl); go_simp; exact ⟨rfl, rfl⟩)
    refine stepV 1 rfl rfl (fun _ _ _ h => h) ?_ ?_
    · rintro p L w1 ⟨hsz, hB, x, y, z, i, c, h_l6, h_m, hne_l6_m⟩ hk
      have L9 : L 9 = false := hk.2.2 9 rfl
      first | exact valR_row _ _ rfl _ rfl _ _ x _ Try.underlying31 rfl (by first | kernel_rfl | (rw [vfn_size]; kernel_rfl)) rfl | (have hc := x.cellIs (show _[0]? = some _ from rfl); go_simp; exact ⟨rfl, rfl⟩)
    refine stepV 2 rfl rfl (fun _ _ _ h => h) ?_ ?_
    · intros; (try simp only [vfn, qfn]); go_simp; exact ⟨rfl, rfl⟩
    refine AllI.cons ?_ ?_
    · refine stepI_fresh 3 rfl (fun p => rfl) rfl (fun b => .slice (some ⟨b, 0, none⟩) 1 1) (fun p => #[.int .i64 1073741824, .int .i64 0, .int .i64 0, .int .i64 1073741824, .int .i64 0, .int .i64 0, .int .i64 0]) 36 (fun p => rfl) ?_ ?_
      · intro p w1
        try simp only [vfn, qfn]
        go_simp
        try rfl
      rintro p L w1 ⟨hsz, hB, x, y, z, i, c, h_l6, h_m, hne_l6_m⟩ hk
      have L9 : L 9 = false := hk.2.2 9 rfl
      refine ⟨Nat.le_trans hsz (by simp), hB.alloc (Nat.le_trans (by first | exact hW0 | (have := hB.size; simp at this ⊢; omega)) hsz) _, x.alloc _, y.alloc _, z.alloc _, i.alloc _, c.alloc _, fun _ => ⟨hsz, ?_⟩, fun hl => absurd hl (by rw [show upL L 3 8 = false from hk.2.2 8 rfl]; decide), fun _ hl => absurd hl (by rw [show upL L 3 8 = false from hk.2.2 8 rfl]; decide)⟩
      exact blk.new _ _ _
    refine stepD 4 rfl (fun p => rfl) (fun _ _ _ h => h) more ?_ ?_
    · rintro p L w1 ⟨hsz, hB, x, y, z, i, c, h_l6, h_m, hne_l6_m⟩ hk
      have L9 : L 9 = false := hk.2.2 9 rfl
      have hh_l6 := (h_l6 (hk.2.1 3 rfl)).2
      go_simp
      refine (M1.out _ _ hh_l6).mono ?_
      rintro e w2 ⟨rfl, h2⟩
      first | exact ⟨rfl, h2⟩ | (subst h2; exact ⟨rfl, Below.refl _ _⟩)
    iterate 3 (refine stepV _ rfl rfl (fun _ _ _ h => h) (by intros; go_simp; exact ⟨rfl, rfl⟩) ?_)
    refine AllI.cons ?_ ?_
    · refine stepI_alloc 8 rfl (fun p => rfl) rfl (tbn fun _ => 0) 38 (fun p => rfl) ?_ ?_
      · intro p w1
        go_simp
        first | done | rfl | rw [zero_tb]
      rintro p L w1 ⟨hsz, hB, x, y, z, i, c, h_l6, h_m, hne_l6_m⟩ hk
      have L9 : L 9 = false := hk.2.2 9 rfl
      refine ⟨Nat.le_trans hsz (by simp), hB.alloc (Nat.le_trans (by first | exact hW0 | (have := hB.size; simp at this ⊢; omega)) hsz) _, x.alloc _, y.alloc _, z.alloc _, i.alloc _, c.alloc _, fun hl => ⟨(h_l6 hl).1, (h_l6 hl).2.alloc _⟩, fun _ => ⟨hsz, ?_⟩, fun hl _ => Nat.ne_of_lt (h_l6 hl).2.lt⟩
      rw [show upL L 8 9 = false from L9]
      exact blk.new _ _ _
    refine AllI.cons ?_ ?_
    · refine stepI_store 9 rfl (fun p => rfl) (fun p => rfl) _ _ _ rfl (fun p => p 8) 0 (fun p => rfl) (fun p => (tbn MV)) (fun p => rfl) (fun p => (tbn fun _ => 0)) (fun p => (tbn MV)) 38 (fun p => tbover _ _) (fun p => by first | (rw [tbn_size, tbn_size]; decide) | simp [tbn_size, tbn_size]) (fun p => by rw [tbn_size]; kernel_rfl) (fun p => tbn_one _) ?_ ?_
      · rintro p L w1 ⟨hsz, hB, x, y, z, i, c, h_l6, h_m, hne_l6_m⟩ hk
        have L9 : L 9 = false := hk.1
        have hh := (h_m (hk.2.1 8 rfl)).2
        rw [L9] at hh
        try simp only [cond_true, cond_false] at hh
        exact hh
      · rintro p L w1 ⟨hsz, hB, x, y, z, i, c, h_l6, h_m, hne_l6_m⟩ hk
        have L9 : L 9 = false := hk.1
        skip
        have hp := h_m (hk.2.1 8 rfl)
        refine ⟨(by simpa using hsz), Below.setRow hB (by first | exact Nat.le_trans hW0 hp.1 | exact ge_m | omega | (have := hB.size; simp at this ⊢; omega)) _, x.rowOther (by first | exact Nat.ne_of_lt (Nat.lt_of_lt_of_le lt_x hp.1) | omega) _, y.rowOther (by first | exact Nat.ne_of_lt (Nat.lt_of_lt_of_le lt_y hp.1) | omega) _, z.rowOther (by first | exact Nat.ne_of_lt (Nat.lt_of_lt_of_le lt_z hp.1) | omega) _, i.rowOther (by first | exact Nat.ne_of_lt (Nat.lt_of_lt_of_le lt_i hp.1) | omega) _, c.rowOther (by first | exact Nat.ne_of_lt (Nat.lt_of_lt_of_le lt_c hp.1) | omega) _, fun hl => ⟨(h_l6 hl).1, (h_l6 hl).2.rowOther (hne_l6_m hl (hk.2.1 8 rfl)) _⟩, fun _ => ⟨hp.1, ?_⟩, hne_l6_m⟩
        rw [show upL L 9 9 = true from rfl]
        exact hp.2.row _
    refine stepV _ rfl rfl (fun _ _ _ h => h) (by intros; go_simp; exact ⟨rfl, rfl⟩) ?_
    exact AllI.nil
  case hV0 =>
    intro p q
    refine AllI.cons ?_ ?_
    · skip
      iterate 11 (refine AllI.cons (by first | exact .inl rfl | (refine .inr ?_; simp only [List.getD_cons_zero, List.getD_cons_succ]; done) | exact .inr rfl) ?_)
      exact AllI.nil
    refine AllI.cons ?_ ?_
    · skip
      iterate 11 (refine AllI.cons (by first | exact .inl rfl | (refine .inr ?_; simp only [List.getD_cons_zero, List.getD_cons_succ]; done) | exact .inr rfl) ?_)
      exact AllI.nil
    exact AllI.nil
  case he =>
  clear hB x y z i c
  rintro p wrrrrrrrrr ⟨hsz, hB, x, y, z, i, c, h_l6, h_m, hne_l6_m⟩
  obtain ⟨le_l6, l6⟩ := h_l6 rfl
  clear h_l6
  obtain ⟨le_m, m⟩ := h_m rfl
  clear h_m
  have ne_l6_m : p 3 ≠ p 8 := hne_l6_m rfl rfl
  clear hne_l6_m
  replace l6 : blk wrrrrrrrrr (p 3) #[.int .i64 1073741824, .int .i64 0, .int .i64 0, .int .i64 1073741824, .int .i64 0, .int .i64 0, .int .i64 0] 36 := l6
  replace m : blk wrrrrrrrrr (p 8) (tbn MV) 38 := m
  have ne_x_l6 : x_b ≠ p 3 := Nat.ne_of_lt (Nat.lt_of_lt_of_le lt_x le_l6)
  have ne_y_l6 : y_b ≠ p 3 := Nat.ne_of_lt (Nat.lt_of_lt_of_le lt_y le_l6)
  have ne_z_l6 : z_b ≠ p 3 := Nat.ne_of_lt (Nat.lt_of_lt_of_le lt_z le_l6)
  have ne_i_l6 : i_b ≠ p 3 := Nat.ne_of_lt (Nat.lt_of_lt_of_le lt_i le_l6)
  have ne_c_l6 : c_b ≠ p 3 := Nat.ne_of_lt (Nat.lt_of_lt_of_le lt_c le_l6)
  have ge_l6 : w.heap.size ≤ p 3 := Nat.le_trans hW0 le_l6
  have ne_x_m : x_b ≠ p 8 := Nat.ne_of_lt (Nat.lt_of_lt_of_le lt_x le_m)
  have ne_y_m : y_b ≠ p 8 := Nat.ne_of_lt (Nat.lt_of_lt_of_le lt_y le_m)
  have ne_z_m : z_b ≠ p 8 := Nat.ne_of_lt (Nat.lt_of_lt_of_le lt_z le_m)
  have ne_i_m : i_b ≠ p 8 := Nat.ne_of_lt (Nat.lt_of_lt_of_le lt_i le_m)
  have ne_c_m : c_b ≠ p 8 := Nat.ne_of_lt (Nat.lt_of_lt_of_le lt_c le_m)
  have ge_m : w.heap.size ≤ p 8 := Nat.le_trans hW0 le_m
  generalize p 3 = l6_b at *
  generalize p 8 = m_b at *
  clear lt_x
  clear lt_y
  clear lt_z
  clear lt_i
  clear lt_c
  clear hsz hW0
  clear M1 l6 m TW
  go_upto_region 10 with (fail)
  have lt_x := x.lt
  have lt_y := y.lt
  have lt_z := z.lt
  have lt_i := i.lt
  have lt_c := c.lt
  have hW0 : w.heap.size ≤ wrrrrrrrrr.heap.size := by have := hB.size; first | exact this | simpa using this
  apply wp_region_Q 3 [0, 1, 3] [0] [(fun p => (fun b => .slice (some ⟨b, 0, none⟩) 4 4) (p 0)), _, _] (fun p L w' => wrrrrrrrrr.heap.size ≤ w'.heap.size ∧ Below w.heap.size w w' ∧ blk w' x_b #[.int .i64 1073741824, .int .i64 0, .int .i64 0] 31 ∧ blk w' y_b #[.int .i64 0, .int .i64 1073741824, .int .i64 0] 31 ∧ blk w' z_b #[.int .i64 0, .int .i64 0, .int .i64 1073741824] 31 ∧ blk w' i_b #[.int .i64 1073741824, .int .i64 0, .int .i64 0, .int .i64 0] 23 ∧ blk w' c_b (qfn (of4 759250125 0 0 759250125)) 23 ∧ (L 0 = true → wrrrrrrrrr.heap.size ≤ p 0 ∧ blk w' (p 0) (qfn (of4 759250125 0 0 759250125)) 2)) _ [(0, 75), (1, 76), (2, 77)] [0, 1, 2]
  case hn => rfl
  case hB => kernel_rfl
  case hds => kernel_rfl
  case hA => (intro p; simp only [putsD, Act.put, List.setIfInBounds_toArray, List.set_cons_zero, List.set_cons_succ, List.getD_cons_zero, List.getD_cons_succ]; exact rfl)
  case h0 => exact fun p => ⟨Nat.le_refl _, hB, x, y, z, i, c, fun h => absurd h (by decide)⟩
  case hmore => exact fun p L w1 w2 ⟨hsz, hB, x, y, z, i, c, h_wl⟩ hm => ⟨Nat.le_trans hsz hm.size, hB.trans (hm.mono (Nat.le_trans hW0 hsz)), x.below hm x.lt, y.below hm y.lt, z.below hm z.lt, i.below hm i.lt, c.below hm c.lt, fun hl => ⟨(h_wl hl).1, (h_wl hl).2.below hm (h_wl hl).2.lt⟩⟩
  case hs =>
    intro more
    refine AllI.cons ?_ ?_
    · refine stepI_fresh 0 rfl (fun p => rfl) rfl (fun b => .slice (some ⟨b, 0, none⟩) 4 4) (fun p => (qfn (of4 759250125 0 0 759250125))) 2 (fun p => rfl) ?_ ?_
      · intro p w1
        try simp only [vfn, qfn]
        go_simp
        try rfl
      rintro p L w1 ⟨hsz, hB, x, y, z, i, c, h_wl⟩ hk
      refine ⟨Nat.le_trans hsz (by simp), hB.alloc (Nat.le_trans (by first | exact hW0 | (have := hB.size; simp at this ⊢; omega)) hsz) _, x.alloc _, y.alloc _, z.alloc _, i.alloc _, c.alloc _, fun _ => ⟨hsz, ?_⟩⟩
      exact blk.new _ _ _
    iterate 2 (refine stepV _ rfl rfl (fun _ _ _ h => h) (by intros; go_simp; exact ⟨rfl, rfl⟩) ?_)
    exact AllI.nil
  case hV0 =>
    intro p q
    refine AllI.cons ?_ ?_
    · skip
      iterate 3 (refine AllI.cons (by first | exact .inl rfl | (refine .inr ?_; simp only [List.getD_cons_zero, List.getD_cons_succ]; done) | exact .inr rfl) ?_)
      exact AllI.nil
    exact AllI.nil
  case he =>
  clear hB x y z i c
  rintro p wrrrrrrrrrr ⟨hsz, hB, x, y, z, i, c, h_wl⟩
  obtain ⟨le_wl, wl⟩ := h_wl rfl
  clear h_wl
  replace wl : blk wrrrrrrrrrr (p 0) (qfn (of4 759250125 0 0 759250125)) 2 := wl
  have ne_x_wl : x_b ≠ p 0 := Nat.ne_of_lt (Nat.lt_of_lt_of_le lt_x le_wl)
  have ne_y_wl : y_b ≠ p 0 := Nat.ne_of_lt (Nat.lt_of_lt_of_le lt_y le_wl)
  have ne_z_wl : z_b ≠ p 0 := Nat.ne_of_lt (Nat.lt_of_lt_of_le lt_z le_wl)
  have ne_i_wl : i_b ≠ p 0 := Nat.ne_of_lt (Nat.lt_of_lt_of_le lt_i le_wl)
  have ne_c_wl : c_b ≠ p 0 := Nat.ne_of_lt (Nat.lt_of_lt_of_le lt_c le_wl)
  have ge_wl : w.heap.size ≤ p 0 := Nat.le_trans hW0 le_wl
  generalize p 0 = wl_b at *
  clear lt_x
  clear lt_y
  clear lt_z
  clear lt_i
  clear lt_c
  clear hsz hW0
  clear x y z i
  generalize (of4 759250125 0 0 759250125) = Q at *
  go_wp2_with (fail)
  go_loopg [77] 4 (fun g_ iv wr => ∃ k : Nat, g_ + k = 4 ∧ iv = .int .i64 k ∧ blk wr c_b (qfn Q) 23 ∧ blk wr wl_b (qfn Q) 2 ∧ Below w.heap.size w wr)
  case atStart => exact ⟨0, rfl, rfl, c, wl, hB⟩
  case round =>
    clear c wl hB
    obtain ⟨k, hk, rfl, c, wl, hB⟩ := hrel
    by_cases hkn : k < 4
    · have hdk : decide ((k : Int) < 4) = true := decide_eq_true (by omega)
      have hdk' : decide (k < 4) = true := decide_eq_true hkn
      have hk3 : (k : Int) < 4 := by omega
      have hwk : IntKind.i64.wrap ((k : Int) + 1) = ((k + 1 : Nat) : Int) := by rw [IntKind.wrap_i64]; omega
      have hc1 : wr.cell? ⟨c_b, k, none⟩ = some (.int .i64 (Q k)) := c.cellIs (qfn_get _ hkn)
      have hc2 : wr.cell? ⟨wl_b, k, none⟩ = some (.int .i64 (Q k)) := wl.cellIs (qfn_get _ hkn)
      have e1 : IntKind.i64.wrap (Q k - Q k) = 0 := by rw [IntKind.wrap_i64]; omega
      have e0 : Q k - Q k = 0 := by omega
      go_wp2_with (fail)
      go_roundg (4 - (k + 1))
      case rel =>
        exact ⟨k + 1, by omega, rfl, c, wl, hB⟩
      case measure => omega
    · obtain rfl : k = 4 := by omega
      go_wp2_with (first
        | (go_at_call 11; with_reducible refine (AW.out _).mono ?_; rintro e w9 ⟨rfl, hb⟩; replace hB := hB.trans (hb.mono hB.size); clear hb))
      go_ret
      exact ⟨rfl, hB⟩
end Go.Proofs.Ytkmelddejdikgaa
