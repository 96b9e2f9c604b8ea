/-
  The transposed matrix of the specification, and its product with a vector. Back of the specification: the transposed matrix times a vector.
-/
import Derived.Test.YtjnocbjngojigaaVecO
set_option linter.unusedSimpArgs false
set_option linter.unusedVariables false
namespace Go.Proofs.Ytjnocbjngojigaa
open Go.RowKit PM Dt
/-- The transposed matrix. -/
def mtr (g : Nat → Int) : Nat → Int := fun j => g (3 * (j % 3) + j / 3)
def tpre (g : Nat → Int) (n : Nat) : Nat → Int := fun j => if 3 * (j % 3) + j / 3 < n then g (3 * (j % 3) + j / 3) else 0
set_option maxRecDepth 100000 in
set_option maxHeartbeats 4000000 in
theorem turned_any (g : Nat → Int) (w : World) : Calls Try.prog 99 #[.agg (mfn g)] w fun e w' => e = .returned (.agg (mfn (mtr g))) ∧ Below w.heap.size w w' := by
  go_enter Try.func99, Try.ntmps99
  go_upto_region 2 with (fail)
  rw [zero_mat]
  have p : blk (((w.alloc (.cells (mfn g) 105)).alloc (.cells (mfn fun _ => 0) 105)).alloc (.cells (mfn fun _ => 0) 105)) w.heap.size (mfn g) 105 := ((blk.new _ _ _).alloc _).alloc _
  have r : blk (((w.alloc (.cells (mfn g) 105)).alloc (.cells (mfn fun _ => 0) 105)).alloc (.cells (mfn fun _ => 0) 105)) (w.heap.size + 1) (mfn fun _ => 0) 105 := (blk.new' (by simp)).alloc _
  have s : blk (((w.alloc (.cells (mfn g) 105)).alloc (.cells (mfn fun _ => 0) 105)).alloc (.cells (mfn fun _ => 0) 105)) (w.heap.size + 1 + 1) (mfn fun _ => 0) 105 := blk.new' (by simp)
  have hB : Below w.heap.size w (((w.alloc (.cells (mfn g) 105)).alloc (.cells (mfn fun _ => 0) 105)).alloc (.cells (mfn fun _ => 0) 105)) := by go_grown
  generalize ((w.alloc (.cells (mfn g) 105)).alloc (.cells (mfn fun _ => 0) 105)).alloc (.cells (mfn fun _ => 0) 105) = w0 at *
  go_wp2_with (fail)
  go_loopw [4] (fun iv wr => ∃ i : Nat, i ≤ 3 ∧ iv = .int .i64 i ∧ blk wr w.heap.size (mfn g) 105 ∧ blk wr (w.heap.size + 1) (mfn fun _ => 0) 105 ∧ blk wr (w.heap.size + 1 + 1) (mfn (tpre g (3 * i))) 105 ∧ Below w.heap.size w wr) (fun iv _ => 3 - (intOf iv).toNat)
  case atStart => exact ⟨0, by omega, rfl, p, r, by rw [show mfn (tpre g (3 * 0)) = mfn (fun _ => 0) from mfn_congr fun i _ => by simp [tpre]]; exact s, hB⟩
  case round =>
    clear p r s hB
    obtain ⟨i, hi3, rfl, p, r, s, hB⟩ := hrel
    have hcase : i = 0 ∨ i = 1 ∨ i = 2 ∨ i = 3 := by omega
    rcases hcase with rfl | rfl | rfl | rfl
    · go_wp2_with (fail)
      obtain ⟨wo, rfl⟩ : ∃ wo : World, wo = wr := ⟨_, rfl⟩
      go_loopw [5] (fun kv wi => ∃ k : Nat, k ≤ 3 ∧ kv = .int .i64 k ∧ blk wi w.heap.size (mfn g) 105 ∧ blk wi (w.heap.size + 1) (mfn fun _ => 0) 105 ∧ blk wi (w.heap.size + 1 + 1) (mfn (tpre g (0 + k))) 105 ∧ Below w.heap.size w wi) (fun kv _ => 3 - (intOf kv).toNat)
      case atStart => exact ⟨0, by omega, rfl, p, r, s, hB⟩
      case round =>
        clear p r s hB
        obtain ⟨k, hk3, rfl, p, r, s, hB⟩ := hrel
        have hcase : k = 0 ∨ k = 1 ∨ k = 2 ∨ k = 3 := by omega
        rcases hcase with rfl | rfl | rfl | rfl
        · go_upto_region 8 with (fail)
          refine wp_region_X 9 (by kernel_rfl) (by kernel_rfl) ?_
          replace p := p.drew
          replace r := r.drew
          replace s := s.drew
          replace hB : Below w.heap.size w wr.drew := hB.drew
          generalize wr.drew = wd at *
          refine wpX_take 0 (.int .i64 0) rfl rfl (by kernel_rfl) (fun w1 h1 => by go_simp; exact ⟨rfl, Below.refl _ _⟩) ?_
          simp only [Act.put, List.setIfInBounds_toArray, List.set_cons_zero, List.set_cons_succ]
          refine wpX_take 1 (.int .i64 0) rfl rfl (by kernel_rfl) (fun w1 h1 => by go_simp; exact ⟨rfl, Below.refl _ _⟩) ?_
          simp only [Act.put, List.setIfInBounds_toArray, List.set_cons_zero, List.set_cons_succ]
          refine wpX_take 2 (.int .i64 0) rfl rfl (by kernel_rfl) (fun w1 h1 => by go_simp; exact ⟨rfl, Below.refl _ _⟩) ?_
          simp only [Act.put, List.setIfInBounds_toArray, List.set_cons_zero, List.set_cons_succ]
          refine wpX_take 3 (.int .i64 0) rfl rfl (by kernel_rfl) (fun w1 h1 => by go_simp; exact ⟨rfl, Below.refl _ _⟩) ?_
          simp only [Act.put, List.setIfInBounds_toArray, List.set_cons_zero, List.set_cons_succ]
          refine wpX_take 4 (.pointer (some ⟨w.heap.size, 0, none⟩)) rfl rfl (by kernel_rfl) (fun w1 h1 => by go_simp; exact ⟨rfl, Below.refl _ _⟩) ?_
          simp only [Act.put, List.setIfInBounds_toArray, List.set_cons_zero, List.set_cons_succ]
          refine wpX_take 5 (.pointer (some ⟨w.heap.size, 0, none⟩)) rfl rfl (by kernel_rfl) (fun w1 h1 => by go_simp; exact ⟨rfl, Below.refl _ _⟩) ?_
          simp only [Act.put, List.setIfInBounds_toArray, List.set_cons_zero, List.set_cons_succ]
          refine wpX_take 6 (.int .i64 (g 0)) rfl rfl (by kernel_rfl) (fun w1 h1 => by have hc : w1.cell? ⟨w.heap.size, 0, none⟩ = some (.int .i64 (g 0)) := (p.below h1 p.lt).cellIs (mfn_get _ (by omega)); go_simp; exact ⟨rfl, Below.refl _ _⟩) ?_
          simp only [Act.put, List.setIfInBounds_toArray, List.set_cons_zero, List.set_cons_succ]
          refine wpX_take 7 (.pointer (some ⟨w.heap.size + 1 + 1, 0, none⟩)) rfl rfl (by kernel_rfl) (fun w1 h1 => by go_simp; exact ⟨rfl, Below.refl _ _⟩) ?_
          simp only [Act.put, List.setIfInBounds_toArray, List.set_cons_zero, List.set_cons_succ]
          refine wpX_take 8 (.pointer (some ⟨w.heap.size + 1 + 1, 0, none⟩)) rfl rfl (by kernel_rfl) (fun w1 h1 => by go_simp; exact ⟨rfl, Below.refl _ _⟩) ?_
          simp only [Act.put, List.setIfInBounds_toArray, List.set_cons_zero, List.set_cons_succ]
          refine wpX_tail (by kernel_rfl) (fun wt ht => ?_)
          simp only [List.drop_succ_cons, List.drop_zero]
          replace hB := hB.trans (ht.mono hB.size)
          replace p := p.below ht p.lt
          replace r := r.below ht r.lt
          replace s := s.below ht s.lt
          clear ht
          have fz : wt.frozen? ⟨w.heap.size + 1 + 1, 0, none⟩ = false := s.free _
          have cz : wt.cell? ⟨w.heap.size + 1 + 1, 0, none⟩ = some (.int .i64 (tpre g 0 0)) := s.cellIs (mfn_get _ (by omega))
          go_wp2_with (fail)
          go_roundw
          case rel =>
            refine ⟨1, by omega, rfl, p.setOther (by simp; omega) _, r.setOther (by simp) _, s.set' (mfn_set (by omega) ?_ ?_), hB.setCell (by simp; omega) _⟩
            · rfl
            · intro j hj hne; simp only [tpre]; split <;> split <;> first | rfl | omega
          case measure => simp [intOf]
        · go_upto_region 8 with (fail)
          refine wp_region_X 9 (by kernel_rfl) (by kernel_rfl) ?_
          replace p := p.drew
          replace r := r.drew
          replace s := s.drew
          replace hB : Below w.heap.size w wr.drew := hB.drew
          generalize wr.drew = wd at *
          refine wpX_take 0 (.int .i64 1) rfl rfl (by kernel_rfl) (fun w1 h1 => by go_simp; exact ⟨rfl, Below.refl _ _⟩) ?_
          simp only [Act.put, List.setIfInBounds_toArray, List.set_cons_zero, List.set_cons_succ]
          refine wpX_take 1 (.int .i64 0) rfl rfl (by kernel_rfl) (fun w1 h1 => by go_simp; exact ⟨rfl, Below.refl _ _⟩) ?_
          simp only [Act.put, List.setIfInBounds_toArray, List.set_cons_zero, List.set_cons_succ]
          refine wpX_take 2 (.int .i64 0) rfl rfl (by kernel_rfl) (fun w1 h1 => by go_simp; exact ⟨rfl, Below.refl _ _⟩) ?_
          simp only [Act.put, List.setIfInBounds_toArray, List.set_cons_zero, List.set_cons_succ]
          refine wpX_take 3 (.int .i64 1) rfl rfl (by kernel_rfl) (fun w1 h1 => by go_simp; exact ⟨rfl, Below.refl _ _⟩) ?_
          simp only [Act.put, List.setIfInBounds_toArray, List.set_cons_zero, List.set_cons_succ]
          refine wpX_take 4 (.pointer (some ⟨w.heap.size, 0, none⟩)) rfl rfl (by kernel_rfl) (fun w1 h1 => by go_simp; exact ⟨rfl, Below.refl _ _⟩) ?_
          simp only [Act.put, List.setIfInBounds_toArray, List.set_cons_zero, List.set_cons_succ]
          refine wpX_take 5 (.pointer (some ⟨w.heap.size, 1, none⟩)) rfl rfl (by kernel_rfl) (fun w1 h1 => by go_simp; exact ⟨rfl, Below.refl _ _⟩) ?_
          simp only [Act.put, List.setIfInBounds_toArray, List.set_cons_zero, List.set_cons_succ]
          refine wpX_take 6 (.int .i64 (g 1)) rfl rfl (by kernel_rfl) (fun w1 h1 => by have hc : w1.cell? ⟨w.heap.size, 1, none⟩ = some (.int .i64 (g 1)) := (p.below h1 p.lt).cellIs (mfn_get _ (by omega)); go_simp; exact ⟨rfl, Below.refl _ _⟩) ?_
          simp only [Act.put, List.setIfInBounds_toArray, List.set_cons_zero, List.set_cons_succ]
          refine wpX_take 7 (.pointer (some ⟨w.heap.size + 1 + 1, 3, none⟩)) rfl rfl (by kernel_rfl) (fun w1 h1 => by go_simp; exact ⟨rfl, Below.refl _ _⟩) ?_
          simp only [Act.put, List.setIfInBounds_toArray, List.set_cons_zero, List.set_cons_succ]
          refine wpX_take 8 (.pointer (some ⟨w.heap.size + 1 + 1, 3, none⟩)) rfl rfl (by kernel_rfl) (fun w1 h1 => by go_simp; exact ⟨rfl, Below.refl _ _⟩) ?_
          simp only [Act.put, List.setIfInBounds_toArray, List.set_cons_zero, List.set_cons_succ]
          refine wpX_tail (by kernel_rfl) (fun wt ht => ?_)
          simp only [List.drop_succ_cons, List.drop_zero]
          replace hB := hB.trans (ht.mono hB.size)
          replace p := p.below ht p.lt
          replace r := r.below ht r.lt
          replace s := s.below ht s.lt
          clear ht
          have fz : wt.frozen? ⟨w.heap.size + 1 + 1, 3, none⟩ = false := s.free _
          have cz : wt.cell? ⟨w.heap.size + 1 + 1, 3, none⟩ = some (.int .i64 (tpre g 1 3)) := s.cellIs (mfn_get _ (by omega))
          go_wp2_with (fail)
          go_roundw
          case rel =>
            refine ⟨2, by omega, rfl, p.setOther (by simp; omega) _, r.setOther (by simp) _, s.set' (mfn_set (by omega) ?_ ?_), hB.setCell (by simp; omega) _⟩
            · rfl
            · intro j hj hne; simp only [tpre]; split <;> split <;> first | rfl | omega
          case measure => simp [intOf]
        · go_upto_region 8 with (fail)
          refine wp_region_X 9 (by kernel_rfl) (by kernel_rfl) ?_
          replace p := p.drew
          replace r := r.drew
          replace s := s.drew
          replace hB : Below w.heap.size w wr.drew := hB.drew
          generalize wr.drew = wd at *
          refine wpX_take 0 (.int .i64 2) rfl rfl (by kernel_rfl) (fun w1 h1 => by go_simp; exact ⟨rfl, Below.refl _ _⟩) ?_
          simp only [Act.put, List.setIfInBounds_toArray, List.set_cons_zero, List.set_cons_succ]
          refine wpX_take 1 (.int .i64 0) rfl rfl (by kernel_rfl) (fun w1 h1 => by go_simp; exact ⟨rfl, Below.refl _ _⟩) ?_
          simp only [Act.put, List.setIfInBounds_toArray, List.set_cons_zero, List.set_cons_succ]
          refine wpX_take 2 (.int .i64 0) rfl rfl (by kernel_rfl) (fun w1 h1 => by go_simp; exact ⟨rfl, Below.refl _ _⟩) ?_
          simp only [Act.put, List.setIfInBounds_toArray, List.set_cons_zero, List.set_cons_succ]
          refine wpX_take 3 (.int .i64 2) rfl rfl (by kernel_rfl) (fun w1 h1 => by go_simp; exact ⟨rfl, Below.refl _ _⟩) ?_
          simp only [Act.put, List.setIfInBounds_toArray, List.set_cons_zero, List.set_cons_succ]
          refine wpX_take 4 (.pointer (some ⟨w.heap.size, 0, none⟩)) rfl rfl (by kernel_rfl) (fun w1 h1 => by go_simp; exact ⟨rfl, Below.refl _ _⟩) ?_
          simp only [Act.put, List.setIfInBounds_toArray, List.set_cons_zero, List.set_cons_succ]
          refine wpX_take 5 (.pointer (some ⟨w.heap.size, 2, none⟩)) rfl rfl (by kernel_rfl) (fun w1 h1 => by go_simp; exact ⟨rfl, Below.refl _ _⟩) ?_
          simp only [Act.put, List.setIfInBounds_toArray, List.set_cons_zero, List.set_cons_succ]
          refine wpX_take 6 (.int .i64 (g 2)) rfl rfl (by kernel_rfl) (fun w1 h1 => by have hc : w1.cell? ⟨w.heap.size, 2, none⟩ = some (.int .i64 (g 2)) := (p.below h1 p.lt).cellIs (mfn_get _ (by omega)); go_simp; exact ⟨rfl, Below.refl _ _⟩) ?_
          simp only [Act.put, List.setIfInBounds_toArray, List.set_cons_zero, List.set_cons_succ]
          refine wpX_take 7 (.pointer (some ⟨w.heap.size + 1 + 1, 6, none⟩)) rfl rfl (by kernel_rfl) (fun w1 h1 => by go_simp; exact ⟨rfl, Below.refl _ _⟩) ?_
          simp only [Act.put, List.setIfInBounds_toArray, List.set_cons_zero, List.set_cons_succ]
          refine wpX_take 8 (.pointer (some ⟨w.heap.size + 1 + 1, 6, none⟩)) rfl rfl (by kernel_rfl) (fun w1 h1 => by go_simp; exact ⟨rfl, Below.refl _ _⟩) ?_
          simp only [Act.put, List.setIfInBounds_toArray, List.set_cons_zero, List.set_cons_succ]
          refine wpX_tail (by kernel_rfl) (fun wt ht => ?_)
          simp only [List.drop_succ_cons, List.drop_zero]
          replace hB := hB.trans (ht.mono hB.size)
          replace p := p.below ht p.lt
          replace r := r.below ht r.lt
          replace s := s.below ht s.lt
          clear ht
          have fz : wt.frozen? ⟨w.heap.size + 1 + 1, 6, none⟩ = false := s.free _
          have cz : wt.cell? ⟨w.heap.size + 1 + 1, 6, none⟩ = some (.int .i64 (tpre g 2 6)) := s.cellIs (mfn_get _ (by omega))
          go_wp2_with (fail)
          go_roundw
          case rel =>
            refine ⟨3, by omega, rfl, p.setOther (by simp; omega) _, r.setOther (by simp) _, s.set' (mfn_set (by omega) ?_ ?_), hB.setCell (by simp; omega) _⟩
            · rfl
            · intro j hj hne; simp only [tpre]; split <;> split <;> first | rfl | omega
          case measure => simp [intOf]
        · go_wp2_with (fail)
          go_roundw
          case rel => exact ⟨1, by omega, rfl, p, r, s, hB⟩
          case measure => simp [intOf]
    · go_wp2_with (fail)
      obtain ⟨wo, rfl⟩ : ∃ wo : World, wo = wr := ⟨_, rfl⟩
      go_loopw [5] (fun kv wi => ∃ k : Nat, k ≤ 3 ∧ kv = .int .i64 k ∧ blk wi w.heap.size (mfn g) 105 ∧ blk wi (w.heap.size + 1) (mfn fun _ => 0) 105 ∧ blk wi (w.heap.size + 1 + 1) (mfn (tpre g (3 + k))) 105 ∧ Below w.heap.size w wi) (fun kv _ => 3 - (intOf kv).toNat)
      case atStart => exact ⟨0, by omega, rfl, p, r, s, hB⟩
      case round =>
        clear p r s hB
        obtain ⟨k, hk3, rfl, p, r, s, hB⟩ := hrel
        have hcase : k = 0 ∨ k = 1 ∨ k = 2 ∨ k = 3 := by omega
        rcases hcase with rfl | rfl | rfl | rfl
        · go_upto_region 8 with (fail)
          refine wp_region_X 9 (by kernel_rfl) (by kernel_rfl) ?_
          replace p := p.drew
          replace r := r.drew
          replace s := s.drew
          replace hB : Below w.heap.size w wr.drew := hB.drew
          generalize wr.drew = wd at *
          refine wpX_take 0 (.int .i64 0) rfl rfl (by kernel_rfl) (fun w1 h1 => by go_simp; exact ⟨rfl, Below.refl _ _⟩) ?_
          simp only [Act.put, List.setIfInBounds_toArray, List.set_cons_zero, List.set_cons_succ]
          refine wpX_take 1 (.int .i64 1) rfl rfl (by kernel_rfl) (fun w1 h1 => by go_simp; exact ⟨rfl, Below.refl _ _⟩) ?_
          simp only [Act.put, List.setIfInBounds_toArray, List.set_cons_zero, List.set_cons_succ]
          refine wpX_take 2 (.int .i64 1) rfl rfl (by kernel_rfl) (fun w1 h1 => by go_simp; exact ⟨rfl, Below.refl _ _⟩) ?_
          simp only [Act.put, List.setIfInBounds_toArray, List.set_cons_zero, List.set_cons_succ]
          refine wpX_take 3 (.int .i64 0) rfl rfl (by kernel_rfl) (fun w1 h1 => by go_simp; exact ⟨rfl, Below.refl _ _⟩) ?_
          simp only [Act.put, List.setIfInBounds_toArray, List.set_cons_zero, List.set_cons_succ]
          refine wpX_take 4 (.pointer (some ⟨w.heap.size, 3, none⟩)) rfl rfl (by kernel_rfl) (fun w1 h1 => by go_simp; exact ⟨rfl, Below.refl _ _⟩) ?_
          simp only [Act.put, List.setIfInBounds_toArray, List.set_cons_zero, List.set_cons_succ]
          refine wpX_take 5 (.pointer (some ⟨w.heap.size, 3, none⟩)) rfl rfl (by kernel_rfl) (fun w1 h1 => by go_simp; exact ⟨rfl, Below.refl _ _⟩) ?_
          simp only [Act.put, List.setIfInBounds_toArray, List.set_cons_zero, List.set_cons_succ]
          refine wpX_take 6 (.int .i64 (g 3)) rfl rfl (by kernel_rfl) (fun w1 h1 => by have hc : w1.cell? ⟨w.heap.size, 3, none⟩ = some (.int .i64 (g 3)) := (p.below h1 p.lt).cellIs (mfn_get _ (by omega)); go_simp; exact ⟨rfl, Below.refl _ _⟩) ?_
          simp only [Act.put, List.setIfInBounds_toArray, List.set_cons_zero, List.set_cons_succ]
          refine wpX_take 7 (.pointer (some ⟨w.heap.size + 1 + 1, 0, none⟩)) rfl rfl (by kernel_rfl) (fun w1 h1 => by go_simp; exact ⟨rfl, Below.refl _ _⟩) ?_
          simp only [Act.put, List.setIfInBounds_toArray, List.set_cons_zero, List.set_cons_succ]
          refine wpX_take 8 (.pointer (some ⟨w.heap.size + 1 + 1, 1, none⟩)) rfl rfl (by kernel_rfl) (fun w1 h1 => by go_simp; exact ⟨rfl, Below.refl _ _⟩) ?_
          simp only [Act.put, List.setIfInBounds_toArray, List.set_cons_zero, List.set_cons_succ]
          refine wpX_tail (by kernel_rfl) (fun wt ht => ?_)
          simp only [List.drop_succ_cons, List.drop_zero]
          replace hB := hB.trans (ht.mono hB.size)
          replace p := p.below ht p.lt
          replace r := r.below ht r.lt
          replace s := s.below ht s.lt
          clear ht
          have fz : wt.frozen? ⟨w.heap.size + 1 + 1, 1, none⟩ = false := s.free _
          have cz : wt.cell? ⟨w.heap.size + 1 + 1, 1, none⟩ = some (.int .i64 (tpre g 3 1)) := s.cellIs (mfn_get _ (by omega))
          go_wp2_with (fail)
          go_roundw
          case rel =>
            refine ⟨1, by omega, rfl, p.setOther (by simp; omega) _, r.setOther (by simp) _, s.set' (mfn_set (by omega) ?_ ?_), hB.setCell (by simp; omega) _⟩
            · rfl
            · intro j hj hne; simp only [tpre]; split <;> split <;> first | rfl | omega
          case measure => simp [intOf]
        · go_upto_region 8 with (fail)
          refine wp_region_X 9 (by kernel_rfl) (by kernel_rfl) ?_
          replace p := p.drew
          replace r := r.drew
          replace s := s.drew
          replace hB : Below w.heap.size w wr.drew := hB.drew
          generalize wr.drew = wd at *
          refine wpX_take 0 (.int .i64 1) rfl rfl (by kernel_rfl) (fun w1 h1 => by go_simp; exact ⟨rfl, Below.refl _ _⟩) ?_
          simp only [Act.put, List.setIfInBounds_toArray, List.set_cons_zero, List.set_cons_succ]
          refine wpX_take 1 (.int .i64 1) rfl rfl (by kernel_rfl) (fun w1 h1 => by go_simp; exact ⟨rfl, Below.refl _ _⟩) ?_
          simp only [Act.put, List.setIfInBounds_toArray, List.set_cons_zero, List.set_cons_succ]
          refine wpX_take 2 (.int .i64 1) rfl rfl (by kernel_rfl) (fun w1 h1 => by go_simp; exact ⟨rfl, Below.refl _ _⟩) ?_
          simp only [Act.put, List.setIfInBounds_toArray, List.set_cons_zero, List.set_cons_succ]
          refine wpX_take 3 (.int .i64 1) rfl rfl (by kernel_rfl) (fun w1 h1 => by go_simp; exact ⟨rfl, Below.refl _ _⟩) ?_
          simp only [Act.put, List.setIfInBounds_toArray, List.set_cons_zero, List.set_cons_succ]
          refine wpX_take 4 (.pointer (some ⟨w.heap.size, 3, none⟩)) rfl rfl (by kernel_rfl) (fun w1 h1 => by go_simp; exact ⟨rfl, Below.refl _ _⟩) ?_
          simp only [Act.put, List.setIfInBounds_toArray, List.set_cons_zero, List.set_cons_succ]
          refine wpX_take 5 (.pointer (some ⟨w.heap.size, 4, none⟩)) rfl rfl (by kernel_rfl) (fun w1 h1 => by go_simp; exact ⟨rfl, Below.refl _ _⟩) ?_
          simp only [Act.put, List.setIfInBounds_toArray, List.set_cons_zero, List.set_cons_succ]
          refine wpX_take 6 (.int .i64 (g 4)) rfl rfl (by kernel_rfl) (fun w1 h1 => by have hc : w1.cell? ⟨w.heap.size, 4, none⟩ = some (.int .i64 (g 4)) := (p.below h1 p.lt).cellIs (mfn_get _ (by omega)); go_simp; exact ⟨rfl, Below.refl _ _⟩) ?_
          simp only [Act.put, List.setIfInBounds_toArray, List.set_cons_zero, List.set_cons_succ]
          refine wpX_take 7 (.pointer (some ⟨w.heap.size + 1 + 1, 3, none⟩)) rfl rfl (by kernel_rfl) (fun w1 h1 => by go_simp; exact ⟨rfl, Below.refl _ _⟩) ?_
          simp only [Act.put, List.setIfInBounds_toArray, List.set_cons_zero, List.set_cons_succ]
          refine wpX_take 8 (.pointer (some ⟨w.heap.size + 1 + 1, 4, none⟩)) rfl rfl (by kernel_rfl) (fun w1 h1 => by go_simp; exact ⟨rfl, Below.refl _ _⟩) ?_
          simp only [Act.put, List.setIfInBounds_toArray, List.set_cons_zero, List.set_cons_succ]
          refine wpX_tail (by kernel_rfl) (fun wt ht => ?_)
          simp only [List.drop_succ_cons, List.drop_zero]
          replace hB := hB.trans (ht.mono hB.size)
          replace p := p.below ht p.lt
          replace r := r.below ht r.lt
          replace s := s.below ht s.lt
          clear ht
          have fz : wt.frozen? ⟨w.heap.size + 1 + 1, 4, none⟩ = false := s.free _
          have cz : wt.cell? ⟨w.heap.size + 1 + 1, 4, none⟩ = some (.int .i64 (tpre g 4 4)) := s.cellIs (mfn_get _ (by omega))
          go_wp2_with (fail)
          go_roundw
          case rel =>
            refine ⟨2, by omega, rfl, p.setOther (by simp; omega) _, r.setOther (by simp) _, s.set' (mfn_set (by omega) ?_ ?_), hB.setCell (by simp; omega) _⟩
            · rfl
            · intro j hj hne; simp only [tpre]; split <;> split <;> first | rfl | omega
          case measure => simp [intOf]
        · go_upto_region 8 with (fail)
          refine wp_region_X 9 (by kernel_rfl) (by kernel_rfl) ?_
          replace p := p.drew
          replace r := r.drew
          replace s := s.drew
          replace hB : Below w.heap.size w wr.drew := hB.drew
          generalize wr.drew = wd at *
          refine wpX_take 0 (.int .i64 2) rfl rfl (by kernel_rfl) (fun w1 h1 => by go_simp; exact ⟨rfl, Below.refl _ _⟩) ?_
          simp only [Act.put, List.setIfInBounds_toArray, List.set_cons_zero, List.set_cons_succ]
          refine wpX_take 1 (.int .i64 1) rfl rfl (by kernel_rfl) (fun w1 h1 => by go_simp; exact ⟨rfl, Below.refl _ _⟩) ?_
          simp only [Act.put, List.setIfInBounds_toArray, List.set_cons_zero, List.set_cons_succ]
          refine wpX_take 2 (.int .i64 1) rfl rfl (by kernel_rfl) (fun w1 h1 => by go_simp; exact ⟨rfl, Below.refl _ _⟩) ?_
          simp only [Act.put, List.setIfInBounds_toArray, List.set_cons_zero, List.set_cons_succ]
          refine wpX_take 3 (.int .i64 2) rfl rfl (by kernel_rfl) (fun w1 h1 => by go_simp; exact ⟨rfl, Below.refl _ _⟩) ?_
          simp only [Act.put, List.setIfInBounds_toArray, List.set_cons_zero, List.set_cons_succ]
          refine wpX_take 4 (.pointer (some ⟨w.heap.size, 3, none⟩)) rfl rfl (by kernel_rfl) (fun w1 h1 => by go_simp; exact ⟨rfl, Below.refl _ _⟩) ?_
          simp only [Act.put, List.setIfInBounds_toArray, List.set_cons_zero, List.set_cons_succ]
          refine wpX_take 5 (.pointer (some ⟨w.heap.size, 5, none⟩)) rfl rfl (by kernel_rfl) (fun w1 h1 => by go_simp; exact ⟨rfl, Below.refl _ _⟩) ?_
          simp only [Act.put, List.setIfInBounds_toArray, List.set_cons_zero, List.set_cons_succ]
          refine wpX_take 6 (.int .i64 (g 5)) rfl rfl (by kernel_rfl) (fun w1 h1 => by have hc : w1.cell? ⟨w.heap.size, 5, none⟩ = some (.int .i64 (g 5)) := (p.below h1 p.lt).cellIs (mfn_get _ (by omega)); go_simp; exact ⟨rfl, Below.refl _ _⟩) ?_
          simp only [Act.put, List.setIfInBounds_toArray, List.set_cons_zero, List.set_cons_succ]
          refine wpX_take 7 (.pointer (some ⟨w.heap.size + 1 + 1, 6, none⟩)) rfl rfl (by kernel_rfl) (fun w1 h1 => by go_simp; exact ⟨rfl, Below.refl _ _⟩) ?_
          simp only [Act.put, List.setIfInBounds_toArray, List.set_cons_zero, List.set_cons_succ]
          refine wpX_take 8 (.pointer (some ⟨w.heap.size + 1 + 1, 7, none⟩)) rfl rfl (by kernel_rfl) (fun w1 h1 => by go_simp; exact ⟨rfl, Below.refl _ _⟩) ?_
          simp only [Act.put, List.setIfInBounds_toArray, List.set_cons_zero, List.set_cons_succ]
          refine wpX_tail (by kernel_rfl) (fun wt ht => ?_)
          simp only [List.drop_succ_cons, List.drop_zero]
          replace hB := hB.trans (ht.mono hB.size)
          replace p := p.below ht p.lt
          replace r := r.below ht r.lt
          replace s := s.below ht s.lt
          clear ht
          have fz : wt.frozen? ⟨w.heap.size + 1 + 1, 7, none⟩ = false := s.free _
          have cz : wt.cell? ⟨w.heap.size + 1 + 1, 7, none⟩ = some (.int .i64 (tpre g 5 7)) := s.cellIs (mfn_get _ (by omega))
          go_wp2_with (fail)
          go_roundw
          case rel =>
            refine ⟨3, by omega, rfl, p.setOther (by simp; omega) _, r.setOther (by simp) _, s.set' (mfn_set (by omega) ?_ ?_), hB.setCell (by simp; omega) _⟩
            · rfl
            · intro j hj hne; simp only [tpre]; split <;> split <;> first | rfl | omega
          case measure => simp [intOf]
        · go_wp2_with (fail)
          go_roundw
          case rel => exact ⟨2, by omega, rfl, p, r, s, hB⟩
          case measure => simp [intOf]
    · go_wp2_with (fail)
      obtain ⟨wo, rfl⟩ : ∃ wo : World, wo = wr := ⟨_, rfl⟩
      go_loopw [5] (fun kv wi => ∃ k : Nat, k ≤ 3 ∧ kv = .int .i64 k ∧ blk wi w.heap.size (mfn g) 105 ∧ blk wi (w.heap.size + 1) (mfn fun _ => 0) 105 ∧ blk wi (w.heap.size + 1 + 1) (mfn (tpre g (6 + k))) 105 ∧ Below w.heap.size w wi) (fun kv _ => 3 - (intOf kv).toNat)
      case atStart => exact ⟨0, by omega, rfl, p, r, s, hB⟩
      case round =>
        clear p r s hB
        obtain ⟨k, hk3, rfl, p, r, s, hB⟩ := hrel
        have hcase : k = 0 ∨ k = 1 ∨ k = 2 ∨ k = 3 := by omega
        rcases hcase with rfl | rfl | rfl | rfl
        · go_upto_region 8 with (fail)
          refine wp_region_X 9 (by kernel_rfl) (by kernel_rfl) ?_
          replace p := p.drew
          replace r := r.drew
          replace s := s.drew
          replace hB : Below w.heap.size w wr.drew := hB.drew
          generalize wr.drew = wd at *
          refine wpX_take 0 (.int .i64 0) rfl rfl (by kernel_rfl) (fun w1 h1 => by go_simp; exact ⟨rfl, Below.refl _ _⟩) ?_
          simp only [Act.put, List.setIfInBounds_toArray, List.set_cons_zero, List.set_cons_succ]
          refine wpX_take 1 (.int .i64 2) rfl rfl (by kernel_rfl) (fun w1 h1 => by go_simp; exact ⟨rfl, Below.refl _ _⟩) ?_
          simp only [Act.put, List.setIfInBounds_toArray, List.set_cons_zero, List.set_cons_succ]
          refine wpX_take 2 (.int .i64 2) rfl rfl (by kernel_rfl) (fun w1 h1 => by go_simp; exact ⟨rfl, Below.refl _ _⟩) ?_
          simp only [Act.put, List.setIfInBounds_toArray, List.set_cons_zero, List.set_cons_succ]
          refine wpX_take 3 (.int .i64 0) rfl rfl (by kernel_rfl) (fun w1 h1 => by go_simp; exact ⟨rfl, Below.refl _ _⟩) ?_
          simp only [Act.put, List.setIfInBounds_toArray, List.set_cons_zero, List.set_cons_succ]
          refine wpX_take 4 (.pointer (some ⟨w.heap.size, 6, none⟩)) rfl rfl (by kernel_rfl) (fun w1 h1 => by go_simp; exact ⟨rfl, Below.refl _ _⟩) ?_
          simp only [Act.put, List.setIfInBounds_toArray, List.set_cons_zero, List.set_cons_succ]
          refine wpX_take 5 (.pointer (some ⟨w.heap.size, 6, none⟩)) rfl rfl (by kernel_rfl) (fun w1 h1 => by go_simp; exact ⟨rfl, Below.refl _ _⟩) ?_
          simp only [Act.put, List.setIfInBounds_toArray, List.set_cons_zero, List.set_cons_succ]
          refine wpX_take 6 (.int .i64 (g 6)) rfl rfl (by kernel_rfl) (fun w1 h1 => by have hc : w1.cell? ⟨w.heap.size, 6, none⟩ = some (.int .i64 (g 6)) := (p.below h1 p.lt).cellIs (mfn_get _ (by omega)); go_simp; exact ⟨rfl, Below.refl _ _⟩) ?_
          simp only [Act.put, List.setIfInBounds_toArray, List.set_cons_zero, List.set_cons_succ]
          refine wpX_take 7 (.pointer (some ⟨w.heap.size + 1 + 1, 0, none⟩)) rfl rfl (by kernel_rfl) (fun w1 h1 => by go_simp; exact ⟨rfl, Below.refl _ _⟩) ?_
          simp only [Act.put, List.setIfInBounds_toArray, List.set_cons_zero, List.set_cons_succ]
          refine wpX_take 8 (.pointer (some ⟨w.heap.size + 1 + 1, 2, none⟩)) rfl rfl (by kernel_rfl) (fun w1 h1 => by go_simp; exact ⟨rfl, Below.refl _ _⟩) ?_
          simp only [Act.put, List.setIfInBounds_toArray, List.set_cons_zero, List.set_cons_succ]
          refine wpX_tail (by kernel_rfl) (fun wt ht => ?_)
          simp only [List.drop_succ_cons, List.drop_zero]
          replace hB := hB.trans (ht.mono hB.size)
          replace p := p.below ht p.lt
          replace r := r.below ht r.lt
          replace s := s.below ht s.lt
          clear ht
          have fz : wt.frozen? ⟨w.heap.size + 1 + 1, 2, none⟩ = false := s.free _
          have cz : wt.cell? ⟨w.heap.size + 1 + 1, 2, none⟩ = some (.int .i64 (tpre g 6 2)) := s.cellIs (mfn_get _ (by omega))
          go_wp2_with (fail)
          go_roundw
          case rel =>
            refine ⟨1, by omega, rfl, p.setOther (by simp; omega) _, r.setOther (by simp) _, s.set' (mfn_set (by omega) ?_ ?_), hB.setCell (by simp; omega) _⟩
            · rfl
            · intro j hj hne; simp only [tpre]; split <;> split <;> first | rfl | omega
          case measure => simp [intOf]
        · go_upto_region 8 with (fail)
          refine wp_region_X 9 (by kernel_rfl) (by kernel_rfl) ?_
          replace p := p.drew
          replace r := r.drew
          replace s := s.drew
          replace hB : Below w.heap.size w wr.drew := hB.drew
          generalize wr.drew = wd at *
          refine wpX_take 0 (.int .i64 1) rfl rfl (by kernel_rfl) (fun w1 h1 => by go_simp; exact ⟨rfl, Below.refl _ _⟩) ?_
          simp only [Act.put, List.setIfInBounds_toArray, List.set_cons_zero, List.set_cons_succ]
          refine wpX_take 1 (.int .i64 2) rfl rfl (by kernel_rfl) (fun w1 h1 => by go_simp; exact ⟨rfl, Below.refl _ _⟩) ?_
          simp only [Act.put, List.setIfInBounds_toArray, List.set_cons_zero, List.set_cons_succ]
          refine wpX_take 2 (.int .i64 2) rfl rfl (by kernel_rfl) (fun w1 h1 => by go_simp; exact ⟨rfl, Below.refl _ _⟩) ?_
          simp only [Act.put, List.setIfInBounds_toArray, List.set_cons_zero, List.set_cons_succ]
          refine wpX_take 3 (.int .i64 1) rfl rfl (by kernel_rfl) (fun w1 h1 => by go_simp; exact ⟨rfl, Below.refl _ _⟩) ?_
          simp only [Act.put, List.setIfInBounds_toArray, List.set_cons_zero, List.set_cons_succ]
          refine wpX_take 4 (.pointer (some ⟨w.heap.size, 6, none⟩)) rfl rfl (by kernel_rfl) (fun w1 h1 => by go_simp; exact ⟨rfl, Below.refl _ _⟩) ?_
          simp only [Act.put, List.setIfInBounds_toArray, List.set_cons_zero, List.set_cons_succ]
          refine wpX_take 5 (.pointer (some ⟨w.heap.size, 7, none⟩)) rfl rfl (by kernel_rfl) (fun w1 h1 => by go_simp; exact ⟨rfl, Below.refl _ _⟩) ?_
          simp only [Act.put, List.setIfInBounds_toArray, List.set_cons_zero, List.set_cons_succ]
          refine wpX_take 6 (.int .i64 (g 7)) rfl rfl (by kernel_rfl) (fun w1 h1 => by have hc : w1.cell? ⟨w.heap.size, 7, none⟩ = some (.int .i64 (g 7)) := (p.below h1 p.lt).cellIs (mfn_get _ (by omega)); go_simp; exact ⟨rfl, Below.refl _ _⟩) ?_
          simp only [Act.put, List.setIfInBounds_toArray, List.set_cons_zero, List.set_cons_succ]
          refine wpX_take 7 (.pointer (some ⟨w.heap.size + 1 + 1, 3, none⟩)) rfl rfl (by kernel_rfl) (fun w1 h1 => by go_simp; exact ⟨rfl, Below.refl _ _⟩) ?_
          simp only [Act.put, List.setIfInBounds_toArray, List.set_cons_zero, List.set_cons_succ]
          refine wpX_take 8 (.pointer (some ⟨w.heap.size + 1 + 1, 5, none⟩)) rfl rfl (by kernel_rfl) (fun w1 h1 => by go_simp; exact ⟨rfl, Below.refl _ _⟩) ?_
          simp only [Act.put, List.setIfInBounds_toArray, List.set_cons_zero, List.set_cons_succ]
          refine wpX_tail (by kernel_rfl) (fun wt ht => ?_)
          simp only [List.drop_succ_cons, List.drop_zero]
          replace hB := hB.trans (ht.mono hB.size)
          replace p := p.below ht p.lt
          replace r := r.below ht r.lt
          replace s := s.below ht s.lt
          clear ht
          have fz : wt.frozen? ⟨w.heap.size + 1 + 1, 5, none⟩ = false := s.free _
          have cz : wt.cell? ⟨w.heap.size + 1 + 1, 5, none⟩ = some (.int .i64 (tpre g 7 5)) := s.cellIs (mfn_get _ (by omega))
          go_wp2_with (fail)
          go_roundw
          case rel =>
            refine ⟨2, by omega, rfl, p.setOther (by simp; omega) _, r.setOther (by simp) _, s.set' (mfn_set (by omega) ?_ ?_), hB.setCell (by simp; omega) _⟩
            · rfl
            · intro j hj hne; simp only [tpre]; split <;> split <;> first | rfl | omega
          case measure => simp [intOf]
        · go_upto_region 8 with (fail)
          refine wp_region_X 9 (by kernel_rfl) (by kernel_rfl) ?_
          replace p := p.drew
          replace r := r.drew
          replace s := s.drew
          replace hB : Below w.heap.size w wr.drew := hB.drew
          generalize wr.drew = wd at *
          refine wpX_take 0 (.int .i64 2) rfl rfl (by kernel_rfl) (fun w1 h1 => by go_simp; exact ⟨rfl, Below.refl _ _⟩) ?_
          simp only [Act.put, List.setIfInBounds_toArray, List.set_cons_zero, List.set_cons_succ]
          refine wpX_take 1 (.int .i64 2) rfl rfl (by kernel_rfl) (fun w1 h1 => by go_simp; exact ⟨rfl, Below.refl _ _⟩) ?_
          simp only [Act.put, List.setIfInBounds_toArray, List.set_cons_zero, List.set_cons_succ]
          refine wpX_take 2 (.int .i64 2) rfl rfl (by kernel_rfl) (fun w1 h1 => by go_simp; exact ⟨rfl, Below.refl _ _⟩) ?_
          simp only [Act.put, List.setIfInBounds_toArray, List.set_cons_zero, List.set_cons_succ]
          refine wpX_take 3 (.int .i64 2) rfl rfl (by kernel_rfl) (fun w1 h1 => by go_simp; exact ⟨rfl, Below.refl _ _⟩) ?_
          simp only [Act.put, List.setIfInBounds_toArray, List.set_cons_zero, List.set_cons_succ]
          refine wpX_take 4 (.pointer (some ⟨w.heap.size, 6, none⟩)) rfl rfl (by kernel_rfl) (fun w1 h1 => by go_simp; exact ⟨rfl, Below.refl _ _⟩) ?_
          simp only [Act.put, List.setIfInBounds_toArray, List.set_cons_zero, List.set_cons_succ]
          refine wpX_take 5 (.pointer (some ⟨w.heap.size, 8, none⟩)) rfl rfl (by kernel_rfl) (fun w1 h1 => by go_simp; exact ⟨rfl, Below.refl _ _⟩) ?_
          simp only [Act.put, List.setIfInBounds_toArray, List.set_cons_zero, List.set_cons_succ]
          refine wpX_take 6 (.int .i64 (g 8)) rfl rfl (by kernel_rfl) (fun w1 h1 => by have hc : w1.cell? ⟨w.heap.size, 8, none⟩ = some (.int .i64 (g 8)) := (p.below h1 p.lt).cellIs (mfn_get _ (by omega)); go_simp; exact ⟨rfl, Below.refl _ _⟩) ?_
          simp only [Act.put, List.setIfInBounds_toArray, List.set_cons_zero, List.set_cons_succ]
          refine wpX_take 7 (.pointer (some ⟨w.heap.size + 1 + 1, 6, none⟩)) rfl rfl (by kernel_rfl) (fun w1 h1 => by go_simp; exact ⟨rfl, Below.refl _ _⟩) ?_
          simp only [Act.put, List.setIfInBounds_toArray, List.set_cons_zero, List.set_cons_succ]
          refine wpX_take 8 (.pointer (some ⟨w.heap.size + 1 + 1, 8, none⟩)) rfl rfl (by kernel_rfl) (fun w1 h1 => by go_simp; exact ⟨rfl, Below.refl _ _⟩) ?_
          simp only [Act.put, List.setIfInBounds_toArray, List.set_cons_zero, List.set_cons_succ]
          refine wpX_tail (by kernel_rfl) (fun wt ht => ?_)
          simp only [List.drop_succ_cons, List.drop_zero]
          replace hB := hB.trans (ht.mono hB.size)
          replace p := p.below ht p.lt
          replace r := r.below ht r.lt
          replace s := s.below ht s.lt
          clear ht
          have fz : wt.frozen? ⟨w.heap.size + 1 + 1, 8, none⟩ = false := s.free _
          have cz : wt.cell? ⟨w.heap.size + 1 + 1, 8, none⟩ = some (.int .i64 (tpre g 8 8)) := s.cellIs (mfn_get _ (by omega))
          go_wp2_with (fail)
          go_roundw
          case rel =>
            refine ⟨3, by omega, rfl, p.setOther (by simp; omega) _, r.setOther (by simp) _, s.set' (mfn_set (by omega) ?_ ?_), hB.setCell (by simp; omega) _⟩
            · rfl
            · intro j hj hne; simp only [tpre]; split <;> split <;> first | rfl | omega
          case measure => simp [intOf]
        · go_wp2_with (fail)
          go_roundw
          case rel => exact ⟨3, by omega, rfl, p, r, s, hB⟩
          case measure => simp [intOf]
    · have e9 : mfn (tpre g (3 * 3)) = mfn (mtr g) := mfn_congr fun j hj => by simp only [tpre, mtr]; rw [if_pos (by omega)]
      rw [e9] at s
      go_wp2_with (first | (refine wpList_load_rowG ?hw _ _ rfl _ rfl _ _ _ _ s Try.underlying105 rfl ?hi ?_; (case hw => (first | rfl | (simp [Region.wanted, yielded]; done))); (case hi => (rw [mfn_size]; kernel_rfl))) | (refine wpList_store_row rfl _ _ _ rfl _ rfl _ rfl _ _ r (by rw [mfn_size]; kernel_rfl) (by simp only [mfn_size]) (mfn_one _) ?_))
      refine bodyPost_ret (results_cell_row rfl _ _ _ _ _ _ _ rfl (r.row (mfn (mtr g))) Try.underlying105 rfl (by rw [mfn_size]; kernel_rfl)) rfl ?_
      exact ⟨rfl, Below.setRow hB (by omega) _⟩
end Go.Proofs.Ytjnocbjngojigaa
namespace Go.Proofs.Ytjnocbjngojigaa
open Go.RowKit PM Dt
theorem mtr_cell (g : Nat → Int) {r k : Nat} (hr : r < 3) (hk : k < 3) : mtr g (3 * r + k) = g (3 * k + r) := by
  unfold mtr
  rw [show (3 * r + k) % 3 = k by omega, show (3 * r + k) / 3 = r by omega]
theorem okM_mtr (g : Nat → Int) : okM (mtr g) = okM g := by
  rw [Bool.eq_iff_iff]
  constructor
  · intro h
    refine okM_of fun i hi => ?_
    have := okM_cell h (i := 3 * (i % 3) + i / 3) (by omega)
    rw [mtr_cell g (r := i % 3) (k := i / 3) (by omega) (by omega), show 3 * (i / 3) + i % 3 = i by omega] at this
    exact this
  · intro h
    refine okM_of fun i hi => ?_
    exact okM_cell h (by omega)
theorem okV_same {x y : Nat → Int} (h : ∀ i, i < 3 → x i = y i) : okV x = okV y := by unfold okV; rw [h 0 (by omega), h 1 (by omega), h 2 (by omega)]
theorem res_same {x y : Nat → Int} (h : ∀ i, i < 3 → x i = y i) : vfn (resF x) = vfn (resF y) ∧ resE x = resE y := by
  unfold resF resE
  rw [okV_same h]
  cases okV y
  · exact ⟨rfl, rfl⟩
  · exact ⟨vfn_congr h, rfl⟩
theorem apply_tr (g f : Nat → Int) (i : Nat) (hi : i < 3) : applyX (mtr g) f i = backX g f i := by
  unfold applyX backX d3
  have e : ∀ k, k < 3 → mrow (mtr g) i k = mcol g i k := fun k hk => mtr_cell g hi hk
  rw [e 0 (by omega), e 1 (by omega), e 2 (by omega)]
theorem back_tr (g f : Nat → Int) : vfn (vapplyF (mtr g) f) = vfn (vbackF g f) ∧ vapplyE (mtr g) f = vbackE g f := by
  unfold vapplyF vapplyE vbackF vbackE
  rw [okM_mtr]
  cases okM g && okV f
  · show vfn (fun _ => 0) = vfn (fun _ => 0) ∧ (2 : Int) = 2
    exact ⟨rfl, rfl⟩
  · show vfn (resF (applyX (mtr g) f)) = vfn (resF (backX g f)) ∧ resE (applyX (mtr g) f) = resE (backX g f)
    exact res_same fun i hi => apply_tr g f i hi
set_option maxRecDepth 100000 in
set_option maxHeartbeats 1000000 in
theorem rvback_any (g f : Nat → Int) (w : World) : Calls Try.prog 55 #[.agg (mfn g), .agg (vfn f)] w fun e w' => e = .returned (.tuple #[.agg (vfn (vbackF g f)), .int .i64 (vbackE g f)]) ∧ Below w.heap.size w w' := by
  have T1 := Lib.hid (fun w => turned_any g w)
  have A1 := Lib.hid (fun w => rvapply_any (mtr g) f w)
  rw [(back_tr g f).1, (back_tr g f).2] at A1
  generalize vbackF g f = F at *
  generalize vbackE g f = E at *
  generalize mtr g = h at *
  go_enter Try.func55, Try.ntmps55
  go_upto_region 1 with (fail)
  rw [zero_vec]
  have p : blk (((w.alloc (.cells (mfn g) 105)).alloc (.cells (vfn f) 25)).alloc (.cells (vfn fun _ => 0) 25)) w.heap.size (mfn g) 105 := ((blk.new _ _ _).alloc _).alloc _
  have q : blk (((w.alloc (.cells (mfn g) 105)).alloc (.cells (vfn f) 25)).alloc (.cells (vfn fun _ => 0) 25)) (w.heap.size + 1) (vfn f) 25 := (blk.new' (by simp)).alloc _
  have r : blk (((w.alloc (.cells (mfn g) 105)).alloc (.cells (vfn f) 25)).alloc (.cells (vfn fun _ => 0) 25)) (w.heap.size + 1 + 1) (vfn fun _ => 0) 25 := blk.new' (by simp)
  have hB : Below w.heap.size w (((w.alloc (.cells (mfn g) 105)).alloc (.cells (vfn f) 25)).alloc (.cells (vfn fun _ => 0) 25)) := by go_grown
  generalize ((w.alloc (.cells (mfn g) 105)).alloc (.cells (vfn f) 25)).alloc (.cells (vfn fun _ => 0) 25) = w0 at *
  refine wp_region_X 6 (by kernel_rfl) (by kernel_rfl) ?_
  replace p := p.drew
  replace q := q.drew
  replace r := r.drew
  replace hB : Below w.heap.size w w0.drew := hB.drew
  generalize w0.drew = wo at *
  refine wpX_take 0 (.agg (mfn g)) rfl rfl (by kernel_rfl) (fun w1 h1 => detR_row _ _ rfl _ rfl _ _ _ (p.below h1 p.lt) Try.underlying105 rfl (by rw [mfn_size]; kernel_rfl) rfl) ?_
  simp only [Act.put, List.setIfInBounds_toArray, List.set_cons_zero, List.set_cons_succ]
  refine wpX_take 1 (.agg (mfn h)) rfl rfl (by kernel_rfl) (fun w1 h1 => ?_) ?_
  · go_simp
    refine (T1.out _).mono ?_
    rintro e w2 ⟨rfl, h2⟩
    exact ⟨rfl, h2⟩
  simp only [Act.put, List.setIfInBounds_toArray, List.set_cons_zero, List.set_cons_succ]
  refine wpX_take 2 (.agg (vfn f)) rfl rfl (by kernel_rfl) (fun w1 h1 => detR_row _ _ rfl _ rfl _ _ _ (q.below h1 q.lt) Try.underlying25 rfl (by rw [vfn_size]; kernel_rfl) rfl) ?_
  simp only [Act.put, List.setIfInBounds_toArray, List.set_cons_zero, List.set_cons_succ]
  refine wpX_take 3 (.tuple #[.agg (vfn F), .int .i64 E]) rfl rfl (by kernel_rfl) (fun w1 h1 => ?_) ?_
  · go_simp
    refine (A1.out _).mono ?_
    rintro e w2 ⟨rfl, h2⟩
    exact ⟨rfl, h2⟩
  simp only [Act.put, List.setIfInBounds_toArray, List.set_cons_zero, List.set_cons_succ]
  refine wpX_take 4 (.agg (vfn F)) rfl rfl (by kernel_rfl) (fun w1 h1 => by go_simp; exact ⟨rfl, Below.refl _ _⟩) ?_
  simp only [Act.put, List.setIfInBounds_toArray, List.set_cons_zero, List.set_cons_succ]
  refine wpX_take 5 (.int .i64 E) rfl rfl (by kernel_rfl) (fun w1 h1 => by go_simp; exact ⟨rfl, Below.refl _ _⟩) ?_
  simp only [Act.put, List.setIfInBounds_toArray, List.set_cons_zero, List.set_cons_succ]
  refine wpX_tail (by kernel_rfl) (fun wt ht => ?_)
  simp only [List.drop_succ_cons, List.drop_zero]
  replace hB := hB.trans (ht.mono hB.size)
  replace r := r.below ht r.lt
  clear ht
  go_wp2_with ((refine wpList_store_row rfl _ _ _ rfl _ rfl _ rfl _ _ r (by rw [vfn_size]; kernel_rfl) (by simp only [vfn_size]) (vfn_one _) ?_))
  refine bodyPost_ret (results_vec rfl _ _ _ _ _ _ _ rfl (r.row (vfn F)) Try.underlying25 rfl (by rw [vfn_size]; kernel_rfl)) rfl ?_; refine ⟨?_, Below.setRow hB (by omega) _⟩
  rfl
end Go.Proofs.Ytjnocbjngojigaa
