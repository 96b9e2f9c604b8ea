/-
  Vector products, in the package and in its specification.
-/
import Derived.Test.YthkklhfnmodpnaaVecC
import Derived.Test.YthkklhfnmodpnaaVecD
set_option linter.unusedSimpArgs false
set_option linter.unusedVariables false
namespace Go.Proofs.Ythkklhfnmodpnaa
open Go.RowKit PM Dt
/-- A component of the vector product. -/
def crossX (f g : Nat → Int) (i : Nat) : Int := twoV (f ((i + 1) % 3)) (g ((i + 2) % 3)) (f ((i + 2) % 3)) (g ((i + 1) % 3))
set_option maxRecDepth 100000 in
set_option maxHeartbeats 1000000 in
theorem crossC0 (f g : Nat → Int) (b c : Nat) (w : World) (p : blk w b (vfn f) 23) (q : blk w c (vfn g) 23) (hw1 : wrap64 (-f 2) = -f 2) (X : Int)
    (D : Hid (∀ x y w, blk w x #[.int .i64 (f 1), .int .i64 (-f 2)] 2 → blk w y #[.int .i64 (g 2), .int .i64 (g 1)] 2 → Calls Try.prog 61 #[.slice (some ⟨x, 0, none⟩) 2 2, .slice (some ⟨y, 0, none⟩) 2 2] w fun e w' => e = .returned (.tuple #[.int .i64 X, .int .i64 0]) ∧ Below w.heap.size w w')) :
    Calls Try.prog 97 #[.int .i64 0, .pointer (some ⟨b, 0, none⟩), .pointer (some ⟨c, 0, none⟩)] w fun e w' => e = .returned (.tuple #[.int .i64 X, .int .i64 0]) ∧ Below w.heap.size w w' := by
  have hw2 : IntKind.i64.wrap (-f 2) = -f 2 := by rw [IntKind.wrap_i64]; unfold wrap64 at hw1; exact hw1
  go_enter Try.func97, Try.ntmps97
  go_upto_region 2 with (fail)
  have hB : More w w := Below.refl _ _
  refine wp_region_X 18 (by kernel_rfl) (by kernel_rfl) ?_
  replace p := p.drew
  replace q := q.drew
  replace hB : More w w.drew := hB.drew
  generalize hwo : w.drew = wo at *
  refine wpX_take 0 (.int .i64 1) rfl rfl (by kernel_rfl) (fun w1 h1 => by go_simp; exact ⟨rfl, Below.refl _ _⟩) ?_
  simp only [Act.put, List.setIfInBounds_toArray, List.set_cons_zero, List.set_cons_succ]
  refine wpX_take 1 (.pointer (some ⟨b, 1, none⟩)) rfl rfl (by kernel_rfl) (fun w1 h1 => by go_simp; exact ⟨rfl, Below.refl _ _⟩) ?_
  simp only [Act.put, List.setIfInBounds_toArray, List.set_cons_zero, List.set_cons_succ]
  refine wpX_take 2 (.int .i64 (f 1)) rfl rfl (by kernel_rfl) (fun w1 h1 => by have hc : w1.cell? ⟨b, 1, none⟩ = some (.int .i64 (f 1)) := (p.below h1 p.lt).cellIs (vfn_get _ (by omega)); go_simp; exact ⟨rfl, Below.refl _ _⟩) ?_
  simp only [Act.put, List.setIfInBounds_toArray, List.set_cons_zero, List.set_cons_succ]
  refine wpX_take 3 (.int .i64 2) rfl rfl (by kernel_rfl) (fun w1 h1 => by go_simp; exact ⟨rfl, Below.refl _ _⟩) ?_
  simp only [Act.put, List.setIfInBounds_toArray, List.set_cons_zero, List.set_cons_succ]
  refine wpX_take 4 (.pointer (some ⟨b, 2, none⟩)) rfl rfl (by kernel_rfl) (fun w1 h1 => by go_simp; exact ⟨rfl, Below.refl _ _⟩) ?_
  simp only [Act.put, List.setIfInBounds_toArray, List.set_cons_zero, List.set_cons_succ]
  refine wpX_take 5 (.int .i64 (f 2)) rfl rfl (by kernel_rfl) (fun w1 h1 => by have hc : w1.cell? ⟨b, 2, none⟩ = some (.int .i64 (f 2)) := (p.below h1 p.lt).cellIs (vfn_get _ (by omega)); go_simp; exact ⟨rfl, Below.refl _ _⟩) ?_
  simp only [Act.put, List.setIfInBounds_toArray, List.set_cons_zero, List.set_cons_succ]
  refine wpX_take 6 (.int .i64 (-f 2)) rfl rfl (by kernel_rfl) (fun w1 h1 => by go_simp; exact ⟨by first | rfl | rw [hw2], Below.refl _ _⟩) ?_
  simp only [Act.put, List.setIfInBounds_toArray, List.set_cons_zero, List.set_cons_succ]
  refine wpX_take 8 (.int .i64 2) rfl rfl (by kernel_rfl) (fun w1 h1 => by go_simp; exact ⟨rfl, Below.refl _ _⟩) ?_
  simp only [Act.put, List.setIfInBounds_toArray, List.set_cons_zero, List.set_cons_succ]
  refine wpX_take 9 (.pointer (some ⟨c, 2, none⟩)) rfl rfl (by kernel_rfl) (fun w1 h1 => by go_simp; exact ⟨rfl, Below.refl _ _⟩) ?_
  simp only [Act.put, List.setIfInBounds_toArray, List.set_cons_zero, List.set_cons_succ]
  refine wpX_take 10 (.int .i64 (g 2)) rfl rfl (by kernel_rfl) (fun w1 h1 => by have hc : w1.cell? ⟨c, 2, none⟩ = some (.int .i64 (g 2)) := (q.below h1 q.lt).cellIs (vfn_get _ (by omega)); go_simp; exact ⟨rfl, Below.refl _ _⟩) ?_
  simp only [Act.put, List.setIfInBounds_toArray, List.set_cons_zero, List.set_cons_succ]
  refine wpX_take 11 (.int .i64 1) rfl rfl (by kernel_rfl) (fun w1 h1 => by go_simp; exact ⟨rfl, Below.refl _ _⟩) ?_
  simp only [Act.put, List.setIfInBounds_toArray, List.set_cons_zero, List.set_cons_succ]
  refine wpX_take 12 (.pointer (some ⟨c, 1, none⟩)) rfl rfl (by kernel_rfl) (fun w1 h1 => by go_simp; exact ⟨rfl, Below.refl _ _⟩) ?_
  simp only [Act.put, List.setIfInBounds_toArray, List.set_cons_zero, List.set_cons_succ]
  refine wpX_take 13 (.int .i64 (g 1)) rfl rfl (by kernel_rfl) (fun w1 h1 => by have hc : w1.cell? ⟨c, 1, none⟩ = some (.int .i64 (g 1)) := (q.below h1 q.lt).cellIs (vfn_get _ (by omega)); go_simp; exact ⟨rfl, Below.refl _ _⟩) ?_
  simp only [Act.put, List.setIfInBounds_toArray, List.set_cons_zero, List.set_cons_succ]
  refine wpX_two 7 14 rfl rfl rfl rfl (by omega) (by omega) (by kernel_rfl) ?_ ?_
  · intro w1 h1 K hK
    go_simp
    refine hK _ _ ((Below.refl _ _).alloc (Nat.le_refl _) _) ?_
    have hB2 : More w (w1.alloc (.cells #[.int .i64 (f 1), .int .i64 (-f 2)] 2)) := More.trans hB (More.trans h1 (Below.alloc (Below.refl _ _) (Nat.le_refl _) _))
    have n1 := blk.new w1 #[.int .i64 (f 1), .int .i64 (-f 2)] 2
    clear hK K h1
    generalize w1.heap.size = b1 at *
    generalize w1.alloc (.cells #[.int .i64 (f 1), .int .i64 (-f 2)] 2) = w2 at *
    refine wpX_one 14 rfl rfl (by omega) (by kernel_rfl) (fun w3 h3 K hK => ?_)
    go_simp
    refine hK _ _ ((Below.refl _ _).alloc (Nat.le_refl _) _) ?_
    replace hB2 : More w (w3.alloc (.cells #[.int .i64 (g 2), .int .i64 (g 1)] 2)) := More.trans hB2 (More.trans h3 (Below.alloc (Below.refl _ _) (Nat.le_refl _) _))
    replace n1 := (n1.below h3 n1.lt).alloc (.cells #[.int .i64 (g 2), .int .i64 (g 1)] 2)
    have n2 := blk.new w3 #[.int .i64 (g 2), .int .i64 (g 1)] 2
    clear hK K h3
    generalize w3.heap.size = b2 at *
    generalize w3.alloc (.cells #[.int .i64 (g 2), .int .i64 (g 1)] 2) = w4 at *
    refine wpX_take 15 (.tuple #[.int .i64 X, .int .i64 0]) rfl rfl (by kernel_rfl) (fun w1 h1 => ?_) ?_
    · go_simp
      refine (D.out _ _ _ (n1.below h1 n1.lt) (n2.below h1 n2.lt)).mono ?_
      rintro e w5 ⟨rfl, h5⟩
      exact ⟨rfl, h5⟩
    simp only [Act.put, List.setIfInBounds_toArray, List.set_cons_zero, List.set_cons_succ]
    refine wpX_take 16 (.int .i64 X) rfl rfl (by kernel_rfl) (fun w1 h1 => by go_simp; exact ⟨rfl, Below.refl _ _⟩) ?_
    simp only [Act.put, List.setIfInBounds_toArray, List.set_cons_zero, List.set_cons_succ]
    refine wpX_take 17 (.int .i64 0) rfl rfl (by kernel_rfl) (fun w1 h1 => by go_simp; exact ⟨rfl, Below.refl _ _⟩) ?_
    simp only [Act.put, List.setIfInBounds_toArray, List.set_cons_zero, List.set_cons_succ]
    refine wpX_tail (by kernel_rfl) (fun wt ht => ?_)
    simp only [List.drop_succ_cons, List.drop_zero]
    replace hB2 := More.trans hB2 ht
    go_wp2_with (fail)
    go_ret2
    exact ⟨rfl, hB2⟩
  · intro w1 h1 K hK
    go_simp
    refine hK _ _ ((Below.refl _ _).alloc (Nat.le_refl _) _) ?_
    have hB2 : More w (w1.alloc (.cells #[.int .i64 (g 2), .int .i64 (g 1)] 2)) := More.trans hB (More.trans h1 (Below.alloc (Below.refl _ _) (Nat.le_refl _) _))
    have n1 := blk.new w1 #[.int .i64 (g 2), .int .i64 (g 1)] 2
    clear hK K h1
    generalize w1.heap.size = b1 at *
    generalize w1.alloc (.cells #[.int .i64 (g 2), .int .i64 (g 1)] 2) = w2 at *
    refine wpX_one 7 rfl rfl (by omega) (by kernel_rfl) (fun w3 h3 K hK => ?_)
    go_simp
    refine hK _ _ ((Below.refl _ _).alloc (Nat.le_refl _) _) ?_
    replace hB2 : More w (w3.alloc (.cells #[.int .i64 (f 1), .int .i64 (-f 2)] 2)) := More.trans hB2 (More.trans h3 (Below.alloc (Below.refl _ _) (Nat.le_refl _) _))
    replace n1 := (n1.below h3 n1.lt).alloc (.cells #[.int .i64 (f 1), .int .i64 (-f 2)] 2)
    have n2 := blk.new w3 #[.int .i64 (f 1), .int .i64 (-f 2)] 2
    clear hK K h3
    generalize w3.heap.size = b2 at *
    generalize w3.alloc (.cells #[.int .i64 (f 1), .int .i64 (-f 2)] 2) = w4 at *
    refine wpX_take 15 (.tuple #[.int .i64 X, .int .i64 0]) rfl rfl (by kernel_rfl) (fun w1 h1 => ?_) ?_
    · go_simp
      refine (D.out _ _ _ (n2.below h1 n2.lt) (n1.below h1 n1.lt)).mono ?_
      rintro e w5 ⟨rfl, h5⟩
      exact ⟨rfl, h5⟩
    simp only [Act.put, List.setIfInBounds_toArray, List.set_cons_zero, List.set_cons_succ]
    refine wpX_take 16 (.int .i64 X) rfl rfl (by kernel_rfl) (fun w1 h1 => by go_simp; exact ⟨rfl, Below.refl _ _⟩) ?_
    simp only [Act.put, List.setIfInBounds_toArray, List.set_cons_zero, List.set_cons_succ]
    refine wpX_take 17 (.int .i64 0) rfl rfl (by kernel_rfl) (fun w1 h1 => by go_simp; exact ⟨rfl, Below.refl _ _⟩) ?_
    simp only [Act.put, List.setIfInBounds_toArray, List.set_cons_zero, List.set_cons_succ]
    refine wpX_tail (by kernel_rfl) (fun wt ht => ?_)
    simp only [List.drop_succ_cons, List.drop_zero]
    replace hB2 := More.trans hB2 ht
    go_wp2_with (fail)
    go_ret2
    exact ⟨rfl, hB2⟩
set_option maxRecDepth 100000 in
set_option maxHeartbeats 1000000 in
theorem crossC1 (f g : Nat → Int) (b c : Nat) (w : World) (p : blk w b (vfn f) 23) (q : blk w c (vfn g) 23) (hw1 : wrap64 (-f 0) = -f 0) (X : Int)
    (D : Hid (∀ x y w, blk w x #[.int .i64 (f 2), .int .i64 (-f 0)] 2 → blk w y #[.int .i64 (g 0), .int .i64 (g 2)] 2 → Calls Try.prog 61 #[.slice (some ⟨x, 0, none⟩) 2 2, .slice (some ⟨y, 0, none⟩) 2 2] w fun e w' => e = .returned (.tuple #[.int .i64 X, .int .i64 0]) ∧ Below w.heap.size w w')) :
    Calls Try.prog 97 #[.int .i64 1, .pointer (some ⟨b, 0, none⟩), .pointer (some ⟨c, 0, none⟩)] w fun e w' => e = .returned (.tuple #[.int .i64 X, .int .i64 0]) ∧ Below w.heap.size w w' := by
  have hw2 : IntKind.i64.wrap (-f 0) = -f 0 := by rw [IntKind.wrap_i64]; unfold wrap64 at hw1; exact hw1
  go_enter Try.func97, Try.ntmps97
  go_upto_region 2 with (fail)
  have hB : More w w := Below.refl _ _
  refine wp_region_X 18 (by kernel_rfl) (by kernel_rfl) ?_
  replace p := p.drew
  replace q := q.drew
  replace hB : More w w.drew := hB.drew
  generalize hwo : w.drew = wo at *
  refine wpX_take 0 (.int .i64 2) rfl rfl (by kernel_rfl) (fun w1 h1 => by go_simp; exact ⟨rfl, Below.refl _ _⟩) ?_
  simp only [Act.put, List.setIfInBounds_toArray, List.set_cons_zero, List.set_cons_succ]
  refine wpX_take 1 (.pointer (some ⟨b, 2, none⟩)) rfl rfl (by kernel_rfl) (fun w1 h1 => by go_simp; exact ⟨rfl, Below.refl _ _⟩) ?_
  simp only [Act.put, List.setIfInBounds_toArray, List.set_cons_zero, List.set_cons_succ]
  refine wpX_take 2 (.int .i64 (f 2)) rfl rfl (by kernel_rfl) (fun w1 h1 => by have hc : w1.cell? ⟨b, 2, none⟩ = some (.int .i64 (f 2)) := (p.below h1 p.lt).cellIs (vfn_get _ (by omega)); go_simp; exact ⟨rfl, Below.refl _ _⟩) ?_
  simp only [Act.put, List.setIfInBounds_toArray, List.set_cons_zero, List.set_cons_succ]
  refine wpX_take 3 (.int .i64 0) rfl rfl (by kernel_rfl) (fun w1 h1 => by go_simp; exact ⟨rfl, Below.refl _ _⟩) ?_
  simp only [Act.put, List.setIfInBounds_toArray, List.set_cons_zero, List.set_cons_succ]
  refine wpX_take 4 (.pointer (some ⟨b, 0, none⟩)) rfl rfl (by kernel_rfl) (fun w1 h1 => by go_simp; exact ⟨rfl, Below.refl _ _⟩) ?_
  simp only [Act.put, List.setIfInBounds_toArray, List.set_cons_zero, List.set_cons_succ]
  refine wpX_take 5 (.int .i64 (f 0)) rfl rfl (by kernel_rfl) (fun w1 h1 => by have hc : w1.cell? ⟨b, 0, none⟩ = some (.int .i64 (f 0)) := (p.below h1 p.lt).cellIs (vfn_get _ (by omega)); go_simp; exact ⟨rfl, Below.refl _ _⟩) ?_
  simp only [Act.put, List.setIfInBounds_toArray, List.set_cons_zero, List.set_cons_succ]
  refine wpX_take 6 (.int .i64 (-f 0)) rfl rfl (by kernel_rfl) (fun w1 h1 => by go_simp; exact ⟨by first | rfl | rw [hw2], Below.refl _ _⟩) ?_
  simp only [Act.put, List.setIfInBounds_toArray, List.set_cons_zero, List.set_cons_succ]
  refine wpX_take 8 (.int .i64 0) rfl rfl (by kernel_rfl) (fun w1 h1 => by go_simp; exact ⟨rfl, Below.refl _ _⟩) ?_
  simp only [Act.put, List.setIfInBounds_toArray, List.set_cons_zero, List.set_cons_succ]
  refine wpX_take 9 (.pointer (some ⟨c, 0, none⟩)) rfl rfl (by kernel_rfl) (fun w1 h1 => by go_simp; exact ⟨rfl, Below.refl _ _⟩) ?_
  simp only [Act.put, List.setIfInBounds_toArray, List.set_cons_zero, List.set_cons_succ]
  refine wpX_take 10 (.int .i64 (g 0)) rfl rfl (by kernel_rfl) (fun w1 h1 => by have hc : w1.cell? ⟨c, 0, none⟩ = some (.int .i64 (g 0)) := (q.below h1 q.lt).cellIs (vfn_get _ (by omega)); go_simp; exact ⟨rfl, Below.refl _ _⟩) ?_
  simp only [Act.put, List.setIfInBounds_toArray, List.set_cons_zero, List.set_cons_succ]
  refine wpX_take 11 (.int .i64 2) rfl rfl (by kernel_rfl) (fun w1 h1 => by go_simp; exact ⟨rfl, Below.refl _ _⟩) ?_
  simp only [Act.put, List.setIfInBounds_toArray, List.set_cons_zero, List.set_cons_succ]
  refine wpX_take 12 (.pointer (some ⟨c, 2, none⟩)) rfl rfl (by kernel_rfl) (fun w1 h1 => by go_simp; exact ⟨rfl, Below.refl _ _⟩) ?_
  simp only [Act.put, List.setIfInBounds_toArray, List.set_cons_zero, List.set_cons_succ]
  refine wpX_take 13 (.int .i64 (g 2)) rfl rfl (by kernel_rfl) (fun w1 h1 => by have hc : w1.cell? ⟨c, 2, none⟩ = some (.int .i64 (g 2)) := (q.below h1 q.lt).cellIs (vfn_get _ (by omega)); go_simp; exact ⟨rfl, Below.refl _ _⟩) ?_
  simp only [Act.put, List.setIfInBounds_toArray, List.set_cons_zero, List.set_cons_succ]
  refine wpX_two 7 14 rfl rfl rfl rfl (by omega) (by omega) (by kernel_rfl) ?_ ?_
  · intro w1 h1 K hK
    go_simp
    refine hK _ _ ((Below.refl _ _).alloc (Nat.le_refl _) _) ?_
    have hB2 : More w (w1.alloc (.cells #[.int .i64 (f 2), .int .i64 (-f 0)] 2)) := More.trans hB (More.trans h1 (Below.alloc (Below.refl _ _) (Nat.le_refl _) _))
    have n1 := blk.new w1 #[.int .i64 (f 2), .int .i64 (-f 0)] 2
    clear hK K h1
    generalize w1.heap.size = b1 at *
    generalize w1.alloc (.cells #[.int .i64 (f 2), .int .i64 (-f 0)] 2) = w2 at *
    refine wpX_one 14 rfl rfl (by omega) (by kernel_rfl) (fun w3 h3 K hK => ?_)
    go_simp
    refine hK _ _ ((Below.refl _ _).alloc (Nat.le_refl _) _) ?_
    replace hB2 : More w (w3.alloc (.cells #[.int .i64 (g 0), .int .i64 (g 2)] 2)) := More.trans hB2 (More.trans h3 (Below.alloc (Below.refl _ _) (Nat.le_refl _) _))
    replace n1 := (n1.below h3 n1.lt).alloc (.cells #[.int .i64 (g 0), .int .i64 (g 2)] 2)
    have n2 := blk.new w3 #[.int .i64 (g 0), .int .i64 (g 2)] 2
    clear hK K h3
    generalize w3.heap.size = b2 at *
    generalize w3.alloc (.cells #[.int .i64 (g 0), .int .i64 (g 2)] 2) = w4 at *
    refine wpX_take 15 (.tuple #[.int .i64 X, .int .i64 0]) rfl rfl (by kernel_rfl) (fun w1 h1 => ?_) ?_
    · go_simp
      refine (D.out _ _ _ (n1.below h1 n1.lt) (n2.below h1 n2.lt)).mono ?_
      rintro e w5 ⟨rfl, h5⟩
      exact ⟨rfl, h5⟩
    simp only [Act.put, List.setIfInBounds_toArray, List.set_cons_zero, List.set_cons_succ]
    refine wpX_take 16 (.int .i64 X) rfl rfl (by kernel_rfl) (fun w1 h1 => by go_simp; exact ⟨rfl, Below.refl _ _⟩) ?_
    simp only [Act.put, List.setIfInBounds_toArray, List.set_cons_zero, List.set_cons_succ]
    refine wpX_take 17 (.int .i64 0) rfl rfl (by kernel_rfl) (fun w1 h1 => by go_simp; exact ⟨rfl, Below.refl _ _⟩) ?_
    simp only [Act.put, List.setIfInBounds_toArray, List.set_cons_zero, List.set_cons_succ]
    refine wpX_tail (by kernel_rfl) (fun wt ht => ?_)
    simp only [List.drop_succ_cons, List.drop_zero]
    replace hB2 := More.trans hB2 ht
    go_wp2_with (fail)
    go_ret2
    exact ⟨rfl, hB2⟩
  · intro w1 h1 K hK
    go_simp
    refine hK _ _ ((Below.refl _ _).alloc (Nat.le_refl _) _) ?_
    have hB2 : More w (w1.alloc (.cells #[.int .i64 (g 0), .int .i64 (g 2)] 2)) := More.trans hB (More.trans h1 (Below.alloc (Below.refl _ _) (Nat.le_refl _) _))
    have n1 := blk.new w1 #[.int .i64 (g 0), .int .i64 (g 2)] 2
    clear hK K h1
    generalize w1.heap.size = b1 at *
    generalize w1.alloc (.cells #[.int .i64 (g 0), .int .i64 (g 2)] 2) = w2 at *
    refine wpX_one 7 rfl rfl (by omega) (by kernel_rfl) (fun w3 h3 K hK => ?_)
    go_simp
    refine hK _ _ ((Below.refl _ _).alloc (Nat.le_refl _) _) ?_
    replace hB2 : More w (w3.alloc (.cells #[.int .i64 (f 2), .int .i64 (-f 0)] 2)) := More.trans hB2 (More.trans h3 (Below.alloc (Below.refl _ _) (Nat.le_refl _) _))
    replace n1 := (n1.below h3 n1.lt).alloc (.cells #[.int .i64 (f 2), .int .i64 (-f 0)] 2)
    have n2 := blk.new w3 #[.int .i64 (f 2), .int .i64 (-f 0)] 2
    clear hK K h3
    generalize w3.heap.size = b2 at *
    generalize w3.alloc (.cells #[.int .i64 (f 2), .int .i64 (-f 0)] 2) = w4 at *
    refine wpX_take 15 (.tuple #[.int .i64 X, .int .i64 0]) rfl rfl (by kernel_rfl) (fun w1 h1 => ?_) ?_
    · go_simp
      refine (D.out _ _ _ (n2.below h1 n2.lt) (n1.below h1 n1.lt)).mono ?_
      rintro e w5 ⟨rfl, h5⟩
      exact ⟨rfl, h5⟩
    simp only [Act.put, List.setIfInBounds_toArray, List.set_cons_zero, List.set_cons_succ]
    refine wpX_take 16 (.int .i64 X) rfl rfl (by kernel_rfl) (fun w1 h1 => by go_simp; exact ⟨rfl, Below.refl _ _⟩) ?_
    simp only [Act.put, List.setIfInBounds_toArray, List.set_cons_zero, List.set_cons_succ]
    refine wpX_take 17 (.int .i64 0) rfl rfl (by kernel_rfl) (fun w1 h1 => by go_simp; exact ⟨rfl, Below.refl _ _⟩) ?_
    simp only [Act.put, List.setIfInBounds_toArray, List.set_cons_zero, List.set_cons_succ]
    refine wpX_tail (by kernel_rfl) (fun wt ht => ?_)
    simp only [List.drop_succ_cons, List.drop_zero]
    replace hB2 := More.trans hB2 ht
    go_wp2_with (fail)
    go_ret2
    exact ⟨rfl, hB2⟩
set_option maxRecDepth 100000 in
set_option maxHeartbeats 1000000 in
theorem crossC2 (f g : Nat → Int) (b c : Nat) (w : World) (p : blk w b (vfn f) 23) (q : blk w c (vfn g) 23) (hw1 : wrap64 (-f 1) = -f 1) (X : Int)
    (D : Hid (∀ x y w, blk w x #[.int .i64 (f 0), .int .i64 (-f 1)] 2 → blk w y #[.int .i64 (g 1), .int .i64 (g 0)] 2 → Calls Try.prog 61 #[.slice (some ⟨x, 0, none⟩) 2 2, .slice (some ⟨y, 0, none⟩) 2 2] w fun e w' => e = .returned (.tuple #[.int .i64 X, .int .i64 0]) ∧ Below w.heap.size w w')) :
    Calls Try.prog 97 #[.int .i64 2, .pointer (some ⟨b, 0, none⟩), .pointer (some ⟨c, 0, none⟩)] w fun e w' => e = .returned (.tuple #[.int .i64 X, .int .i64 0]) ∧ Below w.heap.size w w' := by
  have hw2 : IntKind.i64.wrap (-f 1) = -f 1 := by rw [IntKind.wrap_i64]; unfold wrap64 at hw1; exact hw1
  go_enter Try.func97, Try.ntmps97
  go_upto_region 2 with (fail)
  have hB : More w w := Below.refl _ _
  refine wp_region_X 18 (by kernel_rfl) (by kernel_rfl) ?_
  replace p := p.drew
  replace q := q.drew
  replace hB : More w w.drew := hB.drew
  generalize hwo : w.drew = wo at *
  refine wpX_take 0 (.int .i64 0) rfl rfl (by kernel_rfl) (fun w1 h1 => by go_simp; exact ⟨rfl, Below.refl _ _⟩) ?_
  simp only [Act.put, List.setIfInBounds_toArray, List.set_cons_zero, List.set_cons_succ]
  refine wpX_take 1 (.pointer (some ⟨b, 0, none⟩)) rfl rfl (by kernel_rfl) (fun w1 h1 => by go_simp; exact ⟨rfl, Below.refl _ _⟩) ?_
  simp only [Act.put, List.setIfInBounds_toArray, List.set_cons_zero, List.set_cons_succ]
  refine wpX_take 2 (.int .i64 (f 0)) rfl rfl (by kernel_rfl) (fun w1 h1 => by have hc : w1.cell? ⟨b, 0, none⟩ = some (.int .i64 (f 0)) := (p.below h1 p.lt).cellIs (vfn_get _ (by omega)); go_simp; exact ⟨rfl, Below.refl _ _⟩) ?_
  simp only [Act.put, List.setIfInBounds_toArray, List.set_cons_zero, List.set_cons_succ]
  refine wpX_take 3 (.int .i64 1) rfl rfl (by kernel_rfl) (fun w1 h1 => by go_simp; exact ⟨rfl, Below.refl _ _⟩) ?_
  simp only [Act.put, List.setIfInBounds_toArray, List.set_cons_zero, List.set_cons_succ]
  refine wpX_take 4 (.pointer (some ⟨b, 1, none⟩)) rfl rfl (by kernel_rfl) (fun w1 h1 => by go_simp; exact ⟨rfl, Below.refl _ _⟩) ?_
  simp only [Act.put, List.setIfInBounds_toArray, List.set_cons_zero, List.set_cons_succ]
  refine wpX_take 5 (.int .i64 (f 1)) rfl rfl (by kernel_rfl) (fun w1 h1 => by have hc : w1.cell? ⟨b, 1, none⟩ = some (.int .i64 (f 1)) := (p.below h1 p.lt).cellIs (vfn_get _ (by omega)); go_simp; exact ⟨rfl, Below.refl _ _⟩) ?_
  simp only [Act.put, List.setIfInBounds_toArray, List.set_cons_zero, List.set_cons_succ]
  refine wpX_take 6 (.int .i64 (-f 1)) rfl rfl (by kernel_rfl) (fun w1 h1 => by go_simp; exact ⟨by first | rfl | rw [hw2], Below.refl _ _⟩) ?_
  simp only [Act.put, List.setIfInBounds_toArray, List.set_cons_zero, List.set_cons_succ]
  refine wpX_take 8 (.int .i64 1) rfl rfl (by kernel_rfl) (fun w1 h1 => by go_simp; exact ⟨rfl, Below.refl _ _⟩) ?_
  simp only [Act.put, List.setIfInBounds_toArray, List.set_cons_zero, List.set_cons_succ]
  refine wpX_take 9 (.pointer (some ⟨c, 1, none⟩)) rfl rfl (by kernel_rfl) (fun w1 h1 => by go_simp; exact ⟨rfl, Below.refl _ _⟩) ?_
  simp only [Act.put, List.setIfInBounds_toArray, List.set_cons_zero, List.set_cons_succ]
  refine wpX_take 10 (.int .i64 (g 1)) rfl rfl (by kernel_rfl) (fun w1 h1 => by have hc : w1.cell? ⟨c, 1, none⟩ = some (.int .i64 (g 1)) := (q.below h1 q.lt).cellIs (vfn_get _ (by omega)); go_simp; exact ⟨rfl, Below.refl _ _⟩) ?_
  simp only [Act.put, List.setIfInBounds_toArray, List.set_cons_zero, List.set_cons_succ]
  refine wpX_take 11 (.int .i64 0) rfl rfl (by kernel_rfl) (fun w1 h1 => by go_simp; exact ⟨rfl, Below.refl _ _⟩) ?_
  simp only [Act.put, List.setIfInBounds_toArray, List.set_cons_zero, List.set_cons_succ]
  refine wpX_take 12 (.pointer (some ⟨c, 0, none⟩)) rfl rfl (by kernel_rfl) (fun w1 h1 => by go_simp; exact ⟨rfl, Below.refl _ _⟩) ?_
  simp only [Act.put, List.setIfInBounds_toArray, List.set_cons_zero, List.set_cons_succ]
  refine wpX_take 13 (.int .i64 (g 0)) rfl rfl (by kernel_rfl) (fun w1 h1 => by have hc : w1.cell? ⟨c, 0, none⟩ = some (.int .i64 (g 0)) := (q.below h1 q.lt).cellIs (vfn_get _ (by omega)); go_simp; exact ⟨rfl, Below.refl _ _⟩) ?_
  simp only [Act.put, List.setIfInBounds_toArray, List.set_cons_zero, List.set_cons_succ]
  refine wpX_two 7 14 rfl rfl rfl rfl (by omega) (by omega) (by kernel_rfl) ?_ ?_
  · intro w1 h1 K hK
    go_simp
    refine hK _ _ ((Below.refl _ _).alloc (Nat.le_refl _) _) ?_
    have hB2 : More w (w1.alloc (.cells #[.int .i64 (f 0), .int .i64 (-f 1)] 2)) := More.trans hB (More.trans h1 (Below.alloc (Below.refl _ _) (Nat.le_refl _) _))
    have n1 := blk.new w1 #[.int .i64 (f 0), .int .i64 (-f 1)] 2
    clear hK K h1
    generalize w1.heap.size = b1 at *
    generalize w1.alloc (.cells #[.int .i64 (f 0), .int .i64 (-f 1)] 2) = w2 at *
    refine wpX_one 14 rfl rfl (by omega) (by kernel_rfl) (fun w3 h3 K hK => ?_)
    go_simp
    refine hK _ _ ((Below.refl _ _).alloc (Nat.le_refl _) _) ?_
    replace hB2 : More w (w3.alloc (.cells #[.int .i64 (g 1), .int .i64 (g 0)] 2)) := More.trans hB2 (More.trans h3 (Below.alloc (Below.refl _ _) (Nat.le_refl _) _))
    replace n1 := (n1.below h3 n1.lt).alloc (.cells #[.int .i64 (g 1), .int .i64 (g 0)] 2)
    have n2 := blk.new w3 #[.int .i64 (g 1), .int .i64 (g 0)] 2
    clear hK K h3
    generalize w3.heap.size = b2 at *
    generalize w3.alloc (.cells #[.int .i64 (g 1), .int .i64 (g 0)] 2) = w4 at *
    refine wpX_take 15 (.tuple #[.int .i64 X, .int .i64 0]) rfl rfl (by kernel_rfl) (fun w1 h1 => ?_) ?_
    · go_simp
      refine (D.out _ _ _ (n1.below h1 n1.lt) (n2.below h1 n2.lt)).mono ?_
      rintro e w5 ⟨rfl, h5⟩
      exact ⟨rfl, h5⟩
    simp only [Act.put, List.setIfInBounds_toArray, List.set_cons_zero, List.set_cons_succ]
    refine wpX_take 16 (.int .i64 X) rfl rfl (by kernel_rfl) (fun w1 h1 => by go_simp; exact ⟨rfl, Below.refl _ _⟩) ?_
    simp only [Act.put, List.setIfInBounds_toArray, List.set_cons_zero, List.set_cons_succ]
    refine wpX_take 17 (.int .i64 0) rfl rfl (by kernel_rfl) (fun w1 h1 => by go_simp; exact ⟨rfl, Below.refl _ _⟩) ?_
    simp only [Act.put, List.setIfInBounds_toArray, List.set_cons_zero, List.set_cons_succ]
    refine wpX_tail (by kernel_rfl) (fun wt ht => ?_)
    simp only [List.drop_succ_cons, List.drop_zero]
    replace hB2 := More.trans hB2 ht
    go_wp2_with (fail)
    go_ret2
    exact ⟨rfl, hB2⟩
  · intro w1 h1 K hK
    go_simp
    refine hK _ _ ((Below.refl _ _).alloc (Nat.le_refl _) _) ?_
    have hB2 : More w (w1.alloc (.cells #[.int .i64 (g 1), .int .i64 (g 0)] 2)) := More.trans hB (More.trans h1 (Below.alloc (Below.refl _ _) (Nat.le_refl _) _))
    have n1 := blk.new w1 #[.int .i64 (g 1), .int .i64 (g 0)] 2
    clear hK K h1
    generalize w1.heap.size = b1 at *
    generalize w1.alloc (.cells #[.int .i64 (g 1), .int .i64 (g 0)] 2) = w2 at *
    refine wpX_one 7 rfl rfl (by omega) (by kernel_rfl) (fun w3 h3 K hK => ?_)
    go_simp
    refine hK _ _ ((Below.refl _ _).alloc (Nat.le_refl _) _) ?_
    replace hB2 : More w (w3.alloc (.cells #[.int .i64 (f 0), .int .i64 (-f 1)] 2)) := More.trans hB2 (More.trans h3 (Below.alloc (Below.refl _ _) (Nat.le_refl _) _))
    replace n1 := (n1.below h3 n1.lt).alloc (.cells #[.int .i64 (f 0), .int .i64 (-f 1)] 2)
    have n2 := blk.new w3 #[.int .i64 (f 0), .int .i64 (-f 1)] 2
    clear hK K h3
    generalize w3.heap.size = b2 at *
    generalize w3.alloc (.cells #[.int .i64 (f 0), .int .i64 (-f 1)] 2) = w4 at *
    refine wpX_take 15 (.tuple #[.int .i64 X, .int .i64 0]) rfl rfl (by kernel_rfl) (fun w1 h1 => ?_) ?_
    · go_simp
      refine (D.out _ _ _ (n2.below h1 n2.lt) (n1.below h1 n1.lt)).mono ?_
      rintro e w5 ⟨rfl, h5⟩
      exact ⟨rfl, h5⟩
    simp only [Act.put, List.setIfInBounds_toArray, List.set_cons_zero, List.set_cons_succ]
    refine wpX_take 16 (.int .i64 X) rfl rfl (by kernel_rfl) (fun w1 h1 => by go_simp; exact ⟨rfl, Below.refl _ _⟩) ?_
    simp only [Act.put, List.setIfInBounds_toArray, List.set_cons_zero, List.set_cons_succ]
    refine wpX_take 17 (.int .i64 0) rfl rfl (by kernel_rfl) (fun w1 h1 => by go_simp; exact ⟨rfl, Below.refl _ _⟩) ?_
    simp only [Act.put, List.setIfInBounds_toArray, List.set_cons_zero, List.set_cons_succ]
    refine wpX_tail (by kernel_rfl) (fun wt ht => ?_)
    simp only [List.drop_succ_cons, List.drop_zero]
    replace hB2 := More.trans hB2 ht
    go_wp2_with (fail)
    go_ret2
    exact ⟨rfl, hB2⟩
theorem crossC_any (f g : Nat → Int) (b c : Nat) (w : World) (hf : okV f = true) (hg : okV g = true) (p : blk w b (vfn f) 23) (q : blk w c (vfn g) 23) (i : Nat) (hi : i < 3) :
    Calls Try.prog 97 #[.int .i64 i, .pointer (some ⟨b, 0, none⟩), .pointer (some ⟨c, 0, none⟩)] w fun e w' => e = .returned (.tuple #[.int .i64 (crossX f g i), .int .i64 0]) ∧ Below w.heap.size w w' := by
  have vf := (okV_iff f).1 hf
  have vg := (okV_iff g).1 hg
  have : i = 0 ∨ i = 1 ∨ i = 2 := by omega
  rcases this with rfl | rfl | rfl
  · exact crossC0 f g b c w p q (wrap64_I (vb_I (vb_neg (vf 2 (by omega))))) _ (fun x y w h1 h2 => two_dot _ _ _ _ x y w (vf 1 (by omega)) (vg 2 (by omega)) (vf 2 (by omega)) (vg 1 (by omega)) h1 h2)
  · exact crossC1 f g b c w p q (wrap64_I (vb_I (vb_neg (vf 0 (by omega))))) _ (fun x y w h1 h2 => two_dot _ _ _ _ x y w (vf 2 (by omega)) (vg 0 (by omega)) (vf 0 (by omega)) (vg 2 (by omega)) h1 h2)
  · exact crossC2 f g b c w p q (wrap64_I (vb_I (vb_neg (vf 1 (by omega))))) _ (fun x y w h1 h2 => two_dot _ _ _ _ x y w (vf 0 (by omega)) (vg 1 (by omega)) (vf 1 (by omega)) (vg 0 (by omega)) h1 h2)
end Go.Proofs.Ythkklhfnmodpnaa
