/-
  The transposed matrix of the specification, and its product with a vector.
-/
import Derived.Test.YthkklhfnmodpnaaVecO
set_option linter.unusedSimpArgs false
set_option linter.unusedVariables false
namespace Go.Proofs.Ythkklhfnmodpnaa
open Go.RowKit PM Dt
/-- The transposed matrix. -/
def mtr (g : Nat → Int) : Nat → Int := fun j => g (3 * (j % 3) + j / 3)
def tpre (g : Nat → Int) (n : Nat) : Nat → Int := fun j => if 3 * (j % 3) + j / 3 < n then g (3 * (j % 3) + j / 3) else 0
set_option maxRecDepth 100000 in
set_option maxHeartbeats 4000000 in
theorem turned_any (g : Nat → Int) (w : World) : Calls Try.prog 68 #[.agg (mfn g)] w fun e w' => e = .returned (.agg (mfn (mtr g))) ∧ Below w.heap.size w w' := by
  go_enter Try.func68, Try.ntmps68
  go_upto_region 2 with (fail)
  rw [zero_mat]
  have p : blk (((w.alloc (.cells (mfn g) 25)).alloc (.cells (mfn fun _ => 0) 25)).alloc (.cells (mfn fun _ => 0) 25)) w.heap.size (mfn g) 25 := ((blk.new _ _ _).alloc _).alloc _
  have r : blk (((w.alloc (.cells (mfn g) 25)).alloc (.cells (mfn fun _ => 0) 25)).alloc (.cells (mfn fun _ => 0) 25)) (w.heap.size + 1) (mfn fun _ => 0) 25 := (blk.new' (by simp)).alloc _
  have s : blk (((w.alloc (.cells (mfn g) 25)).alloc (.cells (mfn fun _ => 0) 25)).alloc (.cells (mfn fun _ => 0) 25)) (w.heap.size + 1 + 1) (mfn fun _ => 0) 25 := blk.new' (by simp)
  have hB : Below w.heap.size w (((w.alloc (.cells (mfn g) 25)).alloc (.cells (mfn fun _ => 0) 25)).alloc (.cells (mfn fun _ => 0) 25)) := by go_grown
  generalize ((w.alloc (.cells (mfn g) 25)).alloc (.cells (mfn fun _ => 0) 25)).alloc (.cells (mfn fun _ => 0) 25) = w0 at *
  go_wp2_with (fail)
  go_loopw [4] (fun iv wr => ∃ i : Nat, i ≤ 3 ∧ iv = .int .i64 i ∧ blk wr w.heap.size (mfn g) 25 ∧ blk wr (w.heap.size + 1) (mfn fun _ => 0) 25 ∧ blk wr (w.heap.size + 1 + 1) (mfn (tpre g (3 * i))) 25 ∧ Below w.heap.size w wr) (fun iv _ => 3 - (intOf iv).toNat)
  case atStart => exact ⟨0, by omega, rfl, p, r, by rw [show mfn (tpre g (3 * 0)) = mfn (fun _ => 0) from mfn_congr fun i _ => by simp [tpre]]; exact s, hB⟩
  case round =>
    clear p r s hB
    obtain ⟨i, hi3, rfl, p, r, s, hB⟩ := hrel
    have hcase : i = 0 ∨ i = 1 ∨ i = 2 ∨ i = 3 := by omega
    rcases hcase with rfl | rfl | rfl | rfl
    · go_wp2_with (fail)
      obtain ⟨wo, rfl⟩ : ∃ wo : World, wo = wr := ⟨_, rfl⟩
      go_loopw [5] (fun kv wi => ∃ k : Nat, k ≤ 3 ∧ kv = .int .i64 k ∧ blk wi w.heap.size (mfn g) 25 ∧ blk wi (w.heap.size + 1) (mfn fun _ => 0) 25 ∧ blk wi (w.heap.size + 1 + 1) (mfn (tpre g (0 + k))) 25 ∧ Below w.heap.size w wi) (fun kv _ => 3 - (intOf kv).toNat)
      case atStart => exact ⟨0, by omega, rfl, p, r, s, hB⟩
      case round =>
        clear p r s hB
        obtain ⟨k, hk3, rfl, p, r, s, hB⟩ := hrel
        have hcase : k = 0 ∨ k = 1 ∨ k = 2 ∨ k = 3 := by omega
        rcases hcase with rfl | rfl | rfl | rfl
        · go_upto_region 8 with (fail)
          refine wp_region_X 9 (by kernel_rfl) (by kernel_rfl) ?_
          replace p := p.drew
          replace r := r.drew
          replace s := s.drew
          replace hB : Below w.heap.size w wr.drew := hB.drew
          generalize wr.drew = wd at *
          refine wpX_take 0 (.int .i64 0) rfl rfl (by kernel_rfl) (fun w1 h1 => by go_simp; exact ⟨rfl, Below.refl _ _⟩) ?_
          simp only [Act.put, List.setIfInBounds_toArray, List.set_cons_zero, List.set_cons_succ]
          refine wpX_take 1 (.int .i64 0) rfl rfl (by kernel_rfl) (fun w1 h1 => by go_simp; exact ⟨rfl, Below.refl _ _⟩) ?_
          simp only [Act.put, List.setIfInBounds_toArray, List.set_cons_zero, List.set_cons_succ]
          refine wpX_take 2 (.int .i64 0) rfl rfl (by kernel_rfl) (fun w1 h1 => by go_simp; exact ⟨rfl, Below.refl _ _⟩) ?_
          simp only [Act.put, List.setIfInBounds_toArray, List.set_cons_zero, List.set_cons_succ]
          refine wpX_take 3 (.int .i64 0) rfl rfl (by kernel_rfl) (fun w1 h1 => by go_simp; exact ⟨rfl, Below.refl _ _⟩) ?_
          simp only [Act.put, List.setIfInBounds_toArray, List.set_cons_zero, List.set_cons_succ]
          refine wpX_take 4 (.pointer (some ⟨w.heap.size, 0, none⟩)) rfl rfl (by kernel_rfl) (fun w1 h1 => by go_simp; exact ⟨rfl, Below.refl _ _⟩) ?_
          simp only [Act.put, List.setIfInBounds_toArray, List.set_cons_zero, List.set_cons_succ]
          refine wpX_take 5 (.pointer (some ⟨w.heap.size, 0, none⟩)) rfl rfl (by kernel_rfl) (fun w1 h1 => by go_simp; exact ⟨rfl, Below.refl _ _⟩) ?_
          simp only [Act.put, List.setIfInBounds_toArray, List.set_cons_zero, List.set_cons_succ]
          refine wpX_take 6 (.int .i64 (g 0)) rfl rfl (by kernel_rfl) (fun w1 h1 => by have hc : w1.cell? ⟨w.heap.size, 0, none⟩ = some (.int .i64 (g 0)) := (p.below h1 p.lt).cellIs (mfn_get _ (by omega)); go_simp; exact ⟨rfl, Below.refl _ _⟩) ?_
          simp only [Act.put, List.setIfInBounds_toArray, List.set_cons_zero, List.set_cons_succ]
          refine wpX_take 7 (.pointer (some ⟨w.heap.size + 1 + 1, 0, none⟩)) rfl rfl (by kernel_rfl) (fun w1 h1 => by go_simp; exact ⟨rfl, Below.refl _ _⟩) ?_
          simp only [Act.put, List.setIfInBounds_toArray, List.set_cons_zero, List.set_cons_succ]
          refine wpX_take 8 (.pointer (some ⟨w.heap.size + 1 + 1, 0, none⟩)) rfl rfl (by kernel_rfl) (fun w1 h1 => by go_simp; exact ⟨rfl, Below.refl _ _⟩) ?_
          simp only [Act.put, List.setIfInBounds_toArray, List.set_cons_zero, List.set_cons_succ]
          refine wpX_tail (by kernel_rfl) (fun wt ht => ?_)
          simp only [List.drop_succ_cons, List.drop_zero]
          replace hB := hB.trans (ht.mono hB.size)
          replace p := p.below ht p.lt
          replace r := r.below ht r.lt
          replace s := s.below ht s.lt
          clear ht
          have fz : wt.frozen? ⟨w.heap.size + 1 + 1, 0, none⟩ = false := s.free _
          have cz : wt.cell? ⟨w.heap.size + 1 + 1, 0, none⟩ = some (.int .i64 (tpre g 0 0)) := s.cellIs (mfn_get _ (by omega))
          go_wp2_with (fail)
          go_roundw
          case rel =>
            refine ⟨1, by omega, rfl, p.setOther (by simp; omega) _, r.setOther (by simp) _, s.set' (mfn_set (by omega) ?_ ?_), hB.setCell (by simp; omega) _⟩
            · rfl
            · intro j hj hne; simp only [tpre]; split <;> split <;> first | rfl | omega
          case measure => simp [intOf]
        · go_upto_region 8 with (fail)
          refine wp_region_X 9 (by kernel_rfl) (by kernel_rfl) ?_
          replace p := p.drew
          replace r := r.drew
          replace s := s.drew
          replace hB : Below w.heap.size w wr.drew := hB.drew
          generalize wr.drew = wd at *
          refine wpX_take 0 (.int .i64 1) rfl rfl (by kernel_rfl) (fun w1 h1 => by go_simp; exact ⟨rfl, Below.refl _ _⟩) ?_
          simp only [Act.put, List.setIfInBounds_toArray, List.set_cons_zero, List.set_cons_succ]
          refine wpX_take 1 (.int .i64 0) rfl rfl (by kernel_rfl) (fun w1 h1 => by go_simp; exact ⟨rfl, Below.refl _ _⟩) ?_
          simp only [Act.put, List.setIfInBounds_toArray, List.set_cons_zero, List.set_cons_succ]
          refine wpX_take 2 (.int .i64 0) rfl rfl (by kernel_rfl) (fun w1 h1 => by go_simp; exact ⟨rfl, Below.refl _ _⟩) ?_
          simp only [Act.put, List.setIfInBounds_toArray, List.set_cons_zero, List.set_cons_succ]
          refine wpX_take 3 (.int .i64 1) rfl rfl (by kernel_rfl) (fun w1 h1 => by go_simp; exact ⟨rfl, Below.refl _ _⟩) ?_
          simp only [Act.put, List.setIfInBounds_toArray, List.set_cons_zero, List.set_cons_succ]
          refine wpX_take 4 (.pointer (some ⟨w.heap.size, 0, none⟩)) rfl rfl (by kernel_rfl) (fun w1 h1 => by go_simp; exact ⟨rfl, Below.refl _ _⟩) ?_
          simp only [Act.put, List.setIfInBounds_toArray, List.set_cons_zero, List.set_cons_succ]
          refine wpX_take 5 (.pointer (some ⟨w.heap.size, 1, none⟩)) rfl rfl (by kernel_rfl) (fun w1 h1 => by go_simp; exact ⟨rfl, Below.refl _ _⟩) ?_
          simp only [Act.put, List.setIfInBounds_toArray, List.set_cons_zero, List.set_cons_succ]
          refine wpX_take 6 (.int .i64 (g 1)) rfl rfl (by kernel_rfl) (fun w1 h1 => by have hc : w1.cell? ⟨w.heap.size, 1, none⟩ = some (.int .i64 (g 1)) := (p.below h1 p.lt).cellIs (mfn_get _ (by omega)); go_simp; exact ⟨rfl, Below.refl _ _⟩) ?_
          simp only [Act.put, List.setIfInBounds_toArray, List.set_cons_zero, List.set_cons_succ]
          refine wpX_take 7 (.pointer (some ⟨w.heap.size + 1 + 1, 3, none⟩)) rfl rfl (by kernel_rfl) (fun w1 h1 => by go_simp; exact ⟨rfl, Below.refl _ _⟩) ?_
          simp only [Act.put, List.setIfInBounds_toArray, List.set_cons_zero, List.set_cons_succ]
          refine wpX_take 8 (.pointer (some ⟨w.heap.size + 1 + 1, 3, none⟩)) rfl rfl (by kernel_rfl) (fun w1 h1 => by go_simp; exact ⟨rfl, Below.refl _ _⟩) ?_
          simp only [Act.put, List.setIfInBounds_toArray, List.set_cons_zero, List.set_cons_succ]
          refine wpX_tail (by kernel_rfl) (fun wt ht => ?_)
          simp only [List.drop_succ_cons, List.drop_zero]
          replace hB := hB.trans (ht.mono hB.size)
          replace p := p.below ht p.lt
          replace r := r.below ht r.lt
          replace s := s.below ht s.lt
          clear ht
          have fz : wt.frozen? ⟨w.heap.size + 1 + 1, 3, none⟩ = false := s.free _
          have cz : wt.cell? ⟨w.heap.size + 1 + 1, 3, none⟩ = some (.int .i64 (tpre g 1 3)) := s.cellIs (mfn_get _ (by omega))
          go_wp2_with (fail)
          go_roundw
          case rel =>
            refine ⟨2, by omega, rfl, p.setOther (by simp; omega) _, r.setOther (by simp) _, s.set' (mfn_set (by omega) ?_ ?_), hB.setCell (by simp; omega) _⟩
            · rfl
            · intro j hj hne; simp only [tpre]; split <;> split <;> first | rfl | omega
          case measure => simp [intOf]
        · go_upto_region 8 with (fail)
          refine wp_region_X 9 (by kernel_rfl) (by kernel_rfl) ?_
          replace p := p.drew
          replace r := r.drew
          replace s := s.drew
          replace hB : Below w.heap.size w wr.drew := hB.drew
          generalize wr.drew = wd at *
          refine wpX_take 0 (.int .i64 2) rfl rfl (by kernel_rfl) (fun w1 h1 => by go_simp; exact ⟨rfl, Below.refl _ _⟩) ?_
          simp only [Act.put, List.setIfInBounds_toArray, List.set_cons_zero, List.set_cons_succ]
          refine wpX_take 1 (.int .i64 0) rfl rfl (by kernel_rfl) (fun w1 h1 => by go_simp; exact ⟨rfl, Below.refl _ _⟩) ?_
          simp only [Act.put, List.setIfInBounds_toArray, List.set_cons_zero, List.set_cons_succ]
          refine wpX_take 2 (.int .i64 0) rfl rfl (by kernel_rfl) (fun w1 h1 => by go_simp; exact ⟨rfl, Below.refl _ _⟩) ?_
          simp only [Act.put, List.setIfInBounds_toArray, List.set_cons_zero, List.set_cons_succ]
          refine wpX_take 3 (.int .i64 2) rfl rfl (by kernel_rfl) (fun w1 h1 => by go_simp; exact ⟨rfl, Below.refl _ _⟩) ?_
          simp only [Act.put, List.setIfInBounds_toArray, List.set_cons_zero, List.set_cons_succ]
          refine wpX_take 4 (.pointer (some ⟨w.heap.size, 0, none⟩)) rfl rfl (by kernel_rfl) (fun w1 h1 => by go_simp; exact ⟨rfl, Below.refl _ _⟩) ?_
          simp only [Act.put, List.setIfInBounds_toArray, List.set_cons_zero, List.set_cons_succ]
          refine wpX_take 5 (.pointer (some ⟨w.heap.size, 2, none⟩)) rfl rfl (by kernel_rfl) (fun w1 h1 => by go_simp; exact ⟨rfl, Below.refl _ _⟩) ?_
          simp only [Act.put, List.setIfInBounds_toArray, List.set_cons_zero, List.set_cons_succ]
          refine wpX_take 6 (.int .i64 (g 2)) rfl rfl (by kernel_rfl) (fun w1 h1 => by have hc : w1.cell? ⟨w.heap.size, 2, none⟩ = some (.int .i64 (g 2)) := (p.below h1 p.lt).cellIs (mfn_get _ (by omega)); go_simp; exact ⟨rfl, Below.refl _ _⟩) ?_
          simp only [Act.put, List.setIfInBounds_toArray, List.set_cons_zero, List.set_cons_succ]
          refine wpX_take 7 (.pointer (some ⟨w.heap.size + 1 + 1, 6, none⟩)) rfl rfl (by kernel_rfl) (fun w1 h1 => by go_simp; exact ⟨rfl, Below.refl _ _⟩) ?_
          simp only [Act.put, List.setIfInBounds_toArray, List.set_cons_zero, List.set_cons_succ]
          refine wpX_take 8 (.pointer (some ⟨w.heap.size + 1 + 1, 6, none⟩)) rfl rfl (by kernel_rfl) (fun w1 h1 => by go_simp; exact ⟨rfl, Below.refl _ _⟩) ?_
          simp only [Act.put, List.setIfInBounds_toArray, List.set_cons_zero, List.set_cons_succ]
          refine wpX_tail (by kernel_rfl) (fun wt ht => ?_)
          simp only [List.drop_succ_cons, List.drop_zero]
          replace hB := hB.trans (ht.mono hB.size)
          replace p := p.below ht p.lt
          replace r := r.below ht r.lt
          replace s := s.below ht s.lt
          clear ht
          have fz : wt.frozen? ⟨w.heap.size + 1 + 1, 6, none⟩ = false := s.free _
          have cz : wt.cell? ⟨w.heap.size + 1 + 1, 6, none⟩ = some (.int .i64 (tpre g 2 6)) := s.cellIs (mfn_get _ (by omega))
          go_wp2_with (fail)
          go_roundw
          case rel =>
            refine ⟨3, by omega, rfl, p.setOther (by simp; omega) _, r.setOther (by simp) _, s.set' (mfn_set (by omega) ?_ ?_), hB.setCell (by simp; omega) _⟩
            · rfl
            · intro j hj hne; simp only [tpre]; split <;> split <;> first | rfl | omega
          case measure => simp [intOf]
        · go_wp2_with (fail)
          go_roundw
          case rel => exact ⟨1, by omega, rfl, p, r, s, hB⟩
          case measure => simp [intOf]
    · go_wp2_with (fail)
      obtain ⟨wo, rfl⟩ : ∃ wo : World, wo = wr := ⟨_, rfl⟩
      go_loopw [5] (fun kv wi => ∃ k : Nat, k ≤ 3 ∧ kv = .int .i64 k ∧ blk wi w.heap.size (mfn g) 25 ∧ blk wi (w.heap.size + 1) (mfn fun _ => 0) 25 ∧ blk wi (w.heap.size + 1 + 1) (mfn (tpre g (3 + k))) 25 ∧ Below w.heap.size w wi) (fun kv _ => 3 - (intOf kv).toNat)
      case atStart => exact ⟨0, by omega, rfl, p, r, s, hB⟩
      case round =>
        clear p r s hB
        obtain ⟨k, hk3, rfl, p, r, s, hB⟩ := hrel
        have hcase : k = 0 ∨ k = 1 ∨ k = 2 ∨ k = 3 := by omega
        rcases hcase with rfl | rfl | rfl | rfl
        · go_upto_region 8 with (fail)
          refine wp_region_X 9 (by kernel_rfl) (by kernel_rfl) ?_
          replace p := p.drew
          replace r := r.drew
          replace s := s.drew
          replace hB : Below w.heap.size w wr.drew := hB.drew
          generalize wr.drew = wd at *
          refine wpX_take 0 (.int .i64 0) rfl rfl (by kernel_rfl) (fun w1 h1 => by go_simp; exact ⟨rfl, Below.refl _ _⟩) ?_
          simp only [Act.put, List.setIfInBounds_toArray, List.set_cons_zero, List.set_cons_succ]
          refine wpX_take 1 (.int .i64 1) rfl rfl (by kernel_rfl) (fun w1 h1 => by go_simp; exact ⟨rfl, Below.refl _ _⟩) ?_
          simp only [Act.put, List.setIfInBounds_toArray, List.set_cons_zero, List.set_cons_succ]
          refine wpX_take 2 (.int .i64 1) rfl rfl (by kernel_rfl) (fun w1 h1 => by go_simp; exact ⟨rfl, Below.refl _ _⟩) ?_
          simp only [Act.put, List.setIfInBounds_toArray, List.set_cons_zero, List.set_cons_succ]
          refine wpX_take 3 (.int .i64 0) rfl rfl (by kernel_rfl) (fun w1 h1 => by go_simp; exact ⟨rfl, Below.refl _ _⟩) ?_
          simp only [Act.put, List.setIfInBounds_toArray, List.set_cons_zero, List.set_cons_succ]
          refine wpX_take 4 (.pointer (some ⟨w.heap.size, 3, none⟩)) rfl rfl (by kernel_rfl) (fun w1 h1 => by go_simp; exact ⟨rfl, Below.refl _ _⟩) ?_
          simp only [Act.put, List.setIfInBounds_toArray, List.set_cons_zero, List.set_cons_succ]
          refine wpX_take 5 (.pointer (some ⟨w.heap.size, 3, none⟩)) rfl rfl (by kernel_rfl) (fun w1 h1 => by go_simp; exact ⟨rfl, Below.refl _ _⟩) ?_
          simp only [Act.put, List.setIfInBounds_toArray, List.set_cons_zero, List.set_cons_succ]
          refine wpX_take 6 (.int .i64 (g 3)) rfl rfl (by kernel_rfl) (fun w1 h1 => by have hc : w1.cell? ⟨w.heap.size, 3, none⟩ = some (.int .i64 (g 3)) := (p.below h1 p.lt).cellIs (mfn_get _ (by omega)); go_simp; exact ⟨rfl, Below.refl _ _⟩) ?_
          simp only [Act.put, List.setIfInBounds_toArray, List.set_cons_zero, List.set_cons_succ]
          refine wpX_take 7 (.pointer (some ⟨w.heap.size + 1 + 1, 0, none⟩)) rfl rfl (by kernel_rfl) (fun w1 h1 => by go_simp; exact ⟨rfl, Below.refl _ _⟩) ?_
          simp only [Act.put, List.setIfInBounds_toArray, List.set_cons_zero, List.set_cons_succ]
          refine wpX_take 8 (.pointer (some ⟨w.heap.size + 1 + 1, 1, none⟩)) rfl rfl (by kernel_rfl) (fun w1 h1 => by go_simp; exact ⟨rfl, Below.refl _ _⟩) ?_
          simp only [Act.put, List.setIfInBounds_toArray, List.set_cons_zero, List.set_cons_succ]
          refine wpX_tail (by kernel_rfl) (fun wt ht => ?_)
          simp only [List.drop_succ_cons, List.drop_zero]
          replace hB := hB.trans (ht.mono hB.size)
          replace p := p.below ht p.lt
          replace r := r.below ht r.lt
          replace s := s.below ht s.lt
          clear ht
          have fz : wt.frozen? ⟨w.heap.size + 1 + 1, 1, none⟩ = false := s.free _
          have cz : wt.cell? ⟨w.heap.size + 1 + 1, 1, none⟩ = some (.int .i64 (tpre g 3 1)) := s.cellIs (mfn_get _ (by omega))
          go_wp2_with (fail)
          go_roundw
          case rel =>
            refine ⟨1, by omega, rfl, p.setOther (by simp; omega) _, r.setOther (by simp) _, s.set' (mfn_set (by omega) ?_ ?_), hB.setCell (by simp; omega) _⟩
            · rfl
            · intro j hj hne; simp only [tpre]; split <;> split <;> first | rfl | omega
          case measure => simp [intOf]
        · go_upto_region 8 with (fail)
          refine wp_region_X 9 (by kernel_rfl) (by kernel_rfl) ?_
          replace p := p.drew
          replace r := r.drew
          replace s := s.drew
          replace hB : Below w.heap.size w wr.drew := hB.drew
          generalize wr.drew = wd at *
          refine wpX_take 0 (.int .i64 1) rfl rfl (by kernel_rfl) (fun w1 h1 => by go_simp; exact ⟨rfl, Below.refl _ _⟩) ?_
          simp only [Act.put, List.setIfInBounds_toArray, List.set_cons_zero, List.set_cons_succ]
          refine wpX_take 1 (.int .i64 1) rfl rfl (by kernel_rfl) (fun w1 h1 => by go_simp; exact ⟨rfl, Below.refl _ _⟩) ?_
          simp only [Act.put, List.setIfInBounds_toArray, List.set_cons_zero, List.set_cons_succ]
          refine wpX_take 2 (.int .i64 1) rfl rfl (by kernel_rfl) (fun w1 h1 => by go_simp; exact ⟨rfl, Below.refl _ _⟩) ?_
          simp only [Act.put, List.setIfInBounds_toArray, List.set_cons_zero, List.set_cons_succ]
          refine wpX_take 3 (.int .i64 1) rfl rfl (by kernel_rfl) (fun w1 h1 => by go_simp; exact ⟨rfl, Below.refl _ _⟩) ?_
          simp only [Act.put, List.setIfInBounds_toArray, List.set_cons_zero, List.set_cons_succ]
          refine wpX_take 4 (.pointer (some ⟨w.heap.size, 3, none⟩)) rfl rfl (by kernel_rfl) (fun w1 h1 => by go_simp; exact ⟨rfl, Below.refl _ _⟩) ?_
          simp only [Act.put, List.setIfInBounds_toArray, List.set_cons_zero, List.set_cons_succ]
          refine wpX_take 5 (.pointer (some ⟨w.heap.size, 4, none⟩)) rfl rfl (by kernel_rfl) (fun w1 h1 => by go_simp; exact ⟨rfl, Below.refl _ _⟩) ?_
          simp only [Act.put, List.setIfInBounds_toArray, List.set_cons_zero, List.set_cons_succ]
          refine wpX_take 6 (.int .i64 (g 4)) rfl rfl (by kernel_rfl) (fun w1 h1 => by have hc : w1.cell? ⟨w.heap.size, 4, none⟩ = some (.int .i64 (g 4)) := (p.below h1 p.lt).cellIs (mfn_get _ (by omega)); go_simp; exact ⟨rfl, Below.refl _ _⟩) ?_
          simp only [Act.put, List.setIfInBounds_toArray, List.set_cons_zero, List.set_cons_succ]
          refine wpX_take 7 (.pointer (some ⟨w.heap.size + 1 + 1, 3, none⟩)) rfl rfl (by kernel_rfl) (fun w1 h1 => by go_simp; exact ⟨rfl, Below.refl _ _⟩) ?_
          simp only [Act.put, List.setIfInBounds_toArray, List.set_cons_zero, List.set_cons_succ]
          refine wpX_take 8 (.pointer (some ⟨w.heap.size + 1 + 1, 4, none⟩)) rfl rfl (by kernel_rfl) (fun w1 h1 => by go_simp; exact ⟨rfl, Below.refl _ _⟩) ?_
          simp only [Act.put, List.setIfInBounds_toArray, List.set_cons_zero, List.set_cons_succ]
          refine wpX_tail (by kernel_rfl) (fun wt ht => ?_)
          simp only [List.drop_succ_cons, List.drop_zero]
          replace hB := hB.trans (ht.mono hB.size)
          replace p := p.below ht p.lt
          replace r := r.below ht r.lt
          replace s := s.below ht s.lt
          clear ht
          have fz : wt.frozen? ⟨w.heap.size + 1 + 1, 4, none⟩ = false := s.free _
          have cz : wt.cell? ⟨w.heap.size + 1 + 1, 4, none⟩ = some (.int .i64 (tpre g 4 4)) := s.cellIs (mfn_get _ (by omega))
          go_wp2_with (fail)
          go_roundw
          case rel =>
            refine ⟨2, by omega, rfl, p.setOther (by simp; omega) _, r.setOther (by simp) _, s.set' (mfn_set (by omega) ?_ ?_), hB.setCell (by simp; omega) _⟩
            · rfl
            · intro j hj hne; simp only [tpre]; split <;> split <;> first | rfl | omega
          case measure => simp [intOf]
        · go_upto_region 8 with (fail)
          refine wp_region_X 9 (by kernel_rfl) (by kernel_rfl) ?_
          replace p := p.drew
          replace r := r.drew
          replace s := s.drew
          replace hB : Below w.heap.size w wr.drew := hB.drew
          generalize wr.drew = wd at *
          refine wpX_take 0 (.int .i64 2) rfl rfl (by kernel_rfl) (fun w1 h1 => by go_simp; exact ⟨rfl, Below.refl _ _⟩) ?_
          simp only [Act.put, List.setIfInBounds_toArray, List.set_cons_zero, List.set_cons_succ]
          refine wpX_take 1 (.int .i64 1) rfl rfl (by kernel_rfl) (fun w1 h1 => by go_simp; exact ⟨rfl, Below.refl _ _⟩) ?_
          simp only [Act.put, List.setIfInBounds_toArray, List.set_cons_zero, List.set_cons_succ]
          refine wpX_take 2 (.int .i64 1) rfl rfl (by kernel_rfl) (fun w1 h1 => by go_simp; exact ⟨rfl, Below.refl _ _⟩) ?_
          simp only [Act.put, List.setIfInBounds_toArray, List.set_cons_zero, List.set_cons_succ]
          refine wpX_take 3 (.int .i64 2) rfl rfl (by kernel_rfl) (fun w1 h1 => by go_simp; exact ⟨rfl, Below.refl _ _⟩) ?_
          simp only [Act.put, List.setIfInBounds_toArray, List.set_cons_zero, List.set_cons_succ]
          refine wpX_take 4 (.pointer (some ⟨w.heap.size, 3, none⟩)) rfl rfl (by kernel_rfl) (fun w1 h1 => by go_simp; exact ⟨rfl, Below.refl _ _⟩) ?_
          simp only [Act.put, List.setIfInBounds_toArray, List.set_cons_zero, List.set_cons_succ]
          refine wpX_take 5 (.pointer (some ⟨w.heap.size, 5, none⟩)) rfl rfl (by kernel_rfl) (fun w1 h1 => by go_simp; exact ⟨rfl, Below.refl _ _⟩) ?_
          simp only [Act.put, List.setIfInBounds_toArray, List.set_cons_zero, List.set_cons_succ]
          refine wpX_take 6 (.int .i64 (g 5)) rfl rfl (by kernel_rfl) (fun w1 h1 => by have hc : w1.cell? ⟨w.heap.size, 5, none⟩ = some (.int .i64 (g 5)) := (p.below h1 p.lt).cellIs (mfn_get _ (by omega)); go_simp; exact ⟨rfl, Below.refl _ _⟩) ?_
          simp only [Act.put, List.setIfInBounds_toArray, List.set_cons_zero, List.set_cons_succ]
          refine wpX_take 7 (.pointer (some ⟨w.heap.size + 1 + 1, 6, none⟩)) rfl rfl (by kernel_rfl) (fun w1 h1 => by go_simp; exact ⟨rfl, Below.refl _ _⟩) ?_
          simp only [Act.put, List.setIfInBounds_toArray, List.set_cons_zero, List.set_cons_succ]
          refine wpX_take 8 (.pointer (some ⟨w.heap.size + 1 + 1, 7, none⟩)) rfl rfl (by kernel_rfl) (fun w1 h1 => by go_simp; exact ⟨rfl, Below.refl _ _⟩) ?_
          simp only [Act.put, List.setIfInBounds_toArray, List.set_cons_zero, List.set_cons_succ]
          refine wpX_tail (by kernel_rfl) (fun wt ht => ?_)
          simp only [List.drop_succ_cons, List.drop_zero]
          replace hB := hB.trans (ht.mono hB.size)
          replace p := p.below ht p.lt
          replace r := r.below ht r.lt
          replace s := s.below ht s.lt
          clear ht
          have fz : wt.frozen? ⟨w.heap.size + 1 + 1, 7, none⟩ = false := s.free _
          have cz : wt.cell? ⟨w.heap.size + 1 + 1, 7, none⟩ = some (.int .i64 (tpre g 5 7)) := s.cellIs (mfn_get _ (by omega))
          go_wp2_with (fail)
          go_roundw
          case rel =>
            refine ⟨3, by omega, rfl, p.setOther (by simp; omega) _, r.setOther (by simp) _, s.set' (mfn_set (by omega) ?_ ?_), hB.setCell (by simp; omega) _⟩
            · rfl
            · intro j hj hne; simp only [tpre]; split <;> split <;> first | rfl | omega
          case measure => simp [intOf]
        · go_wp2_with (fail)
          go_roundw
          case rel => exact ⟨2, by omega, rfl, p, r, s, hB⟩
          case measure => simp [intOf]
    · go_wp2_with (fail)
      obtain ⟨wo, rfl⟩ : ∃ wo : World, wo = wr := ⟨_, rfl⟩
      go_loopw [5] (fun kv wi => ∃ k : Nat, k ≤ 3 ∧ kv = .int .i64 k ∧ blk wi w.heap.size (mfn g) 25 ∧ blk wi (w.heap.size + 1) (mfn fun _ => 0) 25 ∧ blk wi (w.heap.size + 1 + 1) (mfn (tpre g (6 + k))) 25 ∧ Below w.heap.size w wi) (fun kv _ => 3 - (intOf kv).toNat)
      case atStart => exact ⟨0, by omega, rfl, p, r, s, hB⟩
      case round =>
        clear p r s hB
        obtain ⟨k, hk3, rfl, p, r, s, hB⟩ := hrel
        have hcase : k = 0 ∨ k = 1 ∨ k = 2 ∨ k = 3 := by omega
        rcases hcase with rfl | rfl | rfl | rfl
        · go_upto_region 8 with (fail)
          refine wp_region_X 9 (by kernel_rfl) (by kernel_rfl) ?_
          replace p := p.drew
          replace r := r.drew
          replace s := s.drew
          replace hB : Below w.heap.size w wr.drew := hB.drew
          generalize wr.drew = wd at *
          refine wpX_take 0 (.int .i64 0) rfl rfl (by kernel_rfl) (fun w1 h1 => by go_simp; exact ⟨rfl, Below.refl _ _⟩) ?_
          simp only [Act.put, List.setIfInBounds_toArray, List.set_cons_zero, List.set_cons_succ]
          refine wpX_take 1 (.int .i64 2) rfl rfl (by kernel_rfl) (fun w1 h1 => by go_simp; exact ⟨rfl, Below.refl _ _⟩) ?_
          simp only [Act.put, List.setIfInBounds_toArray, List.set_cons_zero, List.set_cons_succ]
          refine wpX_take 2 (.int .i64 2) rfl rfl (by kernel_rfl) (fun w1 h1 => by go_simp; exact ⟨rfl, Below.refl _ _⟩) ?_
          simp only [Act.put, List.setIfInBounds_toArray, List.set_cons_zero, List.set_cons_succ]
          refine wpX_take 3 (.int .i64 0) rfl rfl (by kernel_rfl) (fun w1 h1 => by go_simp; exact ⟨rfl, Below.refl _ _⟩) ?_
          simp only [Act.put, List.setIfInBounds_toArray, List.set_cons_zero, List.set_cons_succ]
          refine wpX_take 4 (.pointer (some ⟨w.heap.size, 6, none⟩)) rfl rfl (by kernel_rfl) (fun w1 h1 => by go_simp; exact ⟨rfl, Below.refl _ _⟩) ?_
          simp only [Act.put, List.setIfInBounds_toArray, List.set_cons_zero, List.set_cons_succ]
          refine wpX_take 5 (.pointer (some ⟨w.heap.size, 6, none⟩)) rfl rfl (by kernel_rfl) (fun w1 h1 => by go_simp; exact ⟨rfl, Below.refl _ _⟩) ?_
          simp only [Act.put, List.setIfInBounds_toArray, List.set_cons_zero, List.set_cons_succ]
          refine wpX_take 6 (.int .i64 (g 6)) rfl rfl (by kernel_rfl) (fun w1 h1 => by have hc : w1.cell? ⟨w.heap.size, 6, none⟩ = some (.int .i64 (g 6)) := (p.below h1 p.lt).cellIs (mfn_get _ (by omega)); go_simp; exact ⟨rfl, Below.refl _ _⟩) ?_
          simp only [Act.put, List.setIfInBounds_toArray, List.set_cons_zero, List.set_cons_succ]
          refine wpX_take 7 (.pointer (some ⟨w.heap.size + 1 + 1, 0, none⟩)) rfl rfl (by kernel_rfl) (fun w1 h1 => by go_simp; exact ⟨rfl, Below.refl _ _⟩) ?_
          simp only [Act.put, List.setIfInBounds_toArray, List.set_cons_zero, List.set_cons_succ]
          refine wpX_take 8 (.pointer (some ⟨w.heap.size + 1 + 1, 2, none⟩)) rfl rfl (by kernel_rfl) (fun w1 h1 => by go_simp; exact ⟨rfl, Below.refl _ _⟩) ?_
          simp only [Act.put, List.setIfInBounds_toArray, List.set_cons_zero, List.set_cons_succ]
          refine wpX_tail (by kernel_rfl) (fun wt ht => ?_)
          simp only [List.drop_succ_cons, List.drop_zero]
          replace hB := hB.trans (ht.mono hB.size)
          replace p := p.below ht p.lt
          replace r := r.below ht r.lt
          replace s := s.below ht s.lt
          clear ht
          have fz : wt.frozen? ⟨w.heap.size + 1 + 1, 2, none⟩ = false := s.free _
          have cz : wt.cell? ⟨w.heap.size + 1 + 1, 2, none⟩ = some (.int .i64 (tpre g 6 2)) := s.cellIs (mfn_get _ (by omega))
          go_wp2_with (fail)
          go_roundw
          case rel =>
            refine ⟨1, by omega, rfl, p.setOther (by simp; omega) _, r.setOther (by simp) _, s.set' (mfn_set (by omega) ?_ ?_), hB.setCell (by simp; omega) _⟩
            · rfl
            · intro j hj hne; simp only [tpre]; split <;> split <;> first | rfl | omega
          case measure => simp [intOf]
        · go_upto_region 8 with (fail)
          refine wp_region_X 9 (by kernel_rfl) (by kernel_rfl) ?_
          replace p := p.drew
          replace r := r.drew
          replace s := s.drew
          replace hB : Below w.heap.size w wr.drew := hB.drew
          generalize wr.drew = wd at *
          refine wpX_take 0 (.int .i64 1) rfl rfl (by kernel_rfl) (fun w1 h1 => by go_simp; exact ⟨rfl, Below.refl _ _⟩) ?_
          simp only [Act.put, List.setIfInBounds_toArray, List.set_cons_zero, List.set_cons_succ]
          refine wpX_take 1 (.int .i64 2) rfl rfl (by kernel_rfl) (fun w1 h1 => by go_simp; exact ⟨rfl, Below.refl _ _⟩) ?_
          simp only [Act.put, List.setIfInBounds_toArray, List.set_cons_zero, List.set_cons_succ]
          refine wpX_take 2 (.int .i64 2) rfl rfl (by kernel_rfl) (fun w1 h1 => by go_simp; exact ⟨rfl, Below.refl _ _⟩) ?_
          simp only [Act.put, List.setIfInBounds_toArray, List.set_cons_zero, List.set_cons_succ]
          refine wpX_take 3 (.int .i64 1) rfl rfl (by kernel_rfl) (fun w1 h1 => by go_simp; exact ⟨rfl, Below.refl _ _⟩) ?_
          simp only [Act.put, List.setIfInBounds_toArray, List.set_cons_zero, List.set_cons_succ]
          refine wpX_take 4 (.pointer (some ⟨w.heap.size, 6, none⟩)) rfl rfl (by kernel_rfl) (fun w1 h1 => by go_simp; exact ⟨rfl, Below.refl _ _⟩) ?_
          simp only [Act.put, List.setIfInBounds_toArray, List.set_cons_zero, List.set_cons_succ]
          refine wpX_take 5 (.pointer (some ⟨w.heap.size, 7, none⟩)) rfl rfl (by kernel_rfl) (fun w1 h1 => by go_simp; exact ⟨rfl, Below.refl _ _⟩) ?_
          simp only [Act.put, List.setIfInBounds_toArray, List.set_cons_zero, List.set_cons_succ]
          refine wpX_take 6 (.int .i64 (g 7)) rfl rfl (by kernel_rfl) (fun w1 h1 => by have hc : w1.cell? ⟨w.heap.size, 7, none⟩ = some (.int .i64 (g 7)) := (p.below h1 p.lt).cellIs (mfn_get _ (by omega)); go_simp; exact ⟨rfl, Below.refl _ _⟩) ?_
          simp only [Act.put, List.setIfInBounds_toArray, List.set_cons_zero, List.set_cons_succ]
          refine wpX_take 7 (.pointer (some ⟨w.heap.size + 1 + 1, 3, none⟩)) rfl rfl (by kernel_rfl) (fun w1 h1 => by go_simp; exact ⟨rfl, Below.refl _ _⟩) ?_
          simp only [Act.put, List.setIfInBounds_toArray, List.set_cons_zero, List.set_cons_succ]
          refine wpX_take 8 (.pointer (some ⟨w.heap.size + 1 + 1, 5, none⟩)) rfl rfl (by kernel_rfl) (fun w1 h1 => by go_simp; exact ⟨rfl, Below.refl _ _⟩) ?_
          simp only [Act.put, List.setIfInBounds_toArray, List.set_cons_zero, List.set_cons_succ]
          refine wpX_tail (by kernel_rfl) (fun wt ht => ?_)
          simp only [List.drop_succ_cons, List.drop_zero]
          replace hB := hB.trans (ht.mono hB.size)
          replace p := p.below ht p.lt
          replace r := r.below ht r.lt
          replace s := s.below ht s.lt
          clear ht
          have fz : wt.frozen? ⟨w.heap.size + 1 + 1, 5, none⟩ = false := s.free _
          have cz : wt.cell? ⟨w.heap.size + 1 + 1, 5, none⟩ = some (.int .i64 (tpre g 7 5)) := s.cellIs (mfn_get _ (by omega))
          go_wp2_with (fail)
          go_roundw
          case rel =>
            refine ⟨2, by omega, rfl, p.setOther (by simp; omega) _, r.setOther (by simp) _, s.set' (mfn_set (by omega) ?_ ?_), hB.setCell (by simp; omega) _⟩
            · rfl
            · intro j hj hne; simp only [tpre]; split <;> split <;> first | rfl | omega
          case measure => simp [intOf]
        · go_upto_region 8 with (fail)
          refine wp_region_X 9 (by kernel_rfl) (by kernel_rfl) ?_
          replace p := p.drew
          replace r := r.drew
          replace s := s.drew
          replace hB : Below w.heap.size w wr.drew := hB.drew
          generalize wr.drew = wd at *
          refine wpX_take 0 (.int .i64 2) rfl rfl (by kernel_rfl) (fun w1 h1 => by go_simp; exact ⟨rfl, Below.refl _ _⟩) ?_
          simp only [Act.put, List.setIfInBounds_toArray, List.set_cons_zero, List.set_cons_succ]
          refine wpX_take 1 (.int .i64 2) rfl rfl (by kernel_rfl) (fun w1 h1 => by go_simp; exact ⟨rfl, Below.refl _ _⟩) ?_
          simp only [Act.put, List.setIfInBounds_toArray, List.set_cons_zero, List.set_cons_succ]
          refine wpX_take 2 (.int .i64 2) rfl rfl (by kernel_rfl) (fun w1 h1 => by go_simp; exact ⟨rfl, Below.refl _ _⟩) ?_
          simp only [Act.put, List.setIfInBounds_toArray, List.set_cons_zero, List.set_cons_succ]
          refine wpX_take 3 (.int .i64 2) rfl rfl (by kernel_rfl) (fun w1 h1 => by go_simp; exact ⟨rfl, Below.refl _ _⟩) ?_
          simp only [Act.put, List.setIfInBounds_toArray, List.set_cons_zero, List.set_cons_succ]
          refine wpX_take 4 (.pointer (some ⟨w.heap.size, 6, none⟩)) rfl rfl (by kernel_rfl) (fun w1 h1 => by go_simp; exact ⟨rfl, Below.refl _ _⟩) ?_
          simp only [Act.put, List.setIfInBounds_toArray, List.set_cons_zero, List.set_cons_succ]
          refine wpX_take 5 (.pointer (some ⟨w.heap.size, 8, none⟩)) rfl rfl (by kernel_rfl) (fun w1 h1 => by go_simp; exact ⟨rfl, Below.refl _ _⟩) ?_
          simp only [Act.put, List.setIfInBounds_toArray, List.set_cons_zero, List.set_cons_succ]
          refine wpX_take 6 (.int .i64 (g 8)) rfl rfl (by kernel_rfl) (fun w1 h1 => by have hc : w1.cell? ⟨w.heap.size, 8, none⟩ = some (.int .i64 (g 8)) := (p.below h1 p.lt).cellIs (mfn_get _ (by omega)); go_simp; exact ⟨rfl, Below.refl _ _⟩) ?_
          simp only [Act.put, List.setIfInBounds_toArray, List.set_cons_zero, List.set_cons_succ]
          refine wpX_take 7 (.pointer (some ⟨w.heap.size + 1 + 1, 6, none⟩)) rfl rfl (by kernel_rfl) (fun w1 h1 => by go_simp; exact ⟨rfl, Below.refl _ _⟩) ?_
          simp only [Act.put, List.setIfInBounds_toArray, List.set_cons_zero, List.set_cons_succ]
          refine wpX_take 8 (.pointer (some ⟨w.heap.size + 1 + 1, 8, none⟩)) rfl rfl (by kernel_rfl) (fun w1 h1 => by go_simp; exact ⟨rfl, Below.refl _ _⟩) ?_
          simp only [Act.put, List.setIfInBounds_toArray, List.set_cons_zero, List.set_cons_succ]
          refine wpX_tail (by kernel_rfl) (fun wt ht => ?_)
          simp only [List.drop_succ_cons, List.drop_zero]
          replace hB := hB.trans (ht.mono hB.size)
          replace p := p.below ht p.lt
          replace r := r.below ht r.lt
          replace s := s.below ht s.lt
          clear ht
          have fz : wt.frozen? ⟨w.heap.size + 1 + 1, 8, none⟩ = false := s.free _
          have cz : wt.cell? ⟨w.heap.size + 1 + 1, 8, none⟩ = some (.int .i64 (tpre g 8 8)) := s.cellIs (mfn_get _ (by omega))
          go_wp2_with (fail)
          go_roundw
          case rel =>
            refine ⟨3, by omega, rfl, p.setOther (by simp; omega) _, r.setOther (by simp) _, s.set' (mfn_set (by omega) ?_ ?_), hB.setCell (by simp; omega) _⟩
            · rfl
            · intro j hj hne; simp only [tpre]; split <;> split <;> first | rfl | omega
          case measure => simp [intOf]
        · go_wp2_with (fail)
          go_roundw
          case rel => exact ⟨3, by omega, rfl, p, r, s, hB⟩
          case measure => simp [intOf]
    · have e9 : mfn (tpre g (3 * 3)) = mfn (mtr g) := mfn_congr fun j hj => by simp only [tpre, mtr]; rw [if_pos (by omega)]
      rw [e9] at s
      go_wp2_with (first | (refine wpList_load_rowG ?hw _ _ rfl _ rfl _ _ _ _ s Try.underlying25 rfl ?hi ?_; (case hw => (first | rfl | (simp [Region.wanted, yielded]; done))); (case hi => (rw [mfn_size]; kernel_rfl))) | (refine wpList_store_row rfl _ _ _ rfl _ rfl _ rfl _ _ r (by rw [mfn_size]; kernel_rfl) (by simp only [mfn_size]) (mfn_one _) ?_))
      refine bodyPost_ret (results_cell_row rfl _ _ _ _ _ _ _ rfl (r.row (mfn (mtr g))) Try.underlying25 rfl (by rw [mfn_size]; kernel_rfl)) rfl ?_
      exact ⟨rfl, Below.setRow hB (by omega) _⟩
end Go.Proofs.Ythkklhfnmodpnaa
