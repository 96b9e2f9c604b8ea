/-
  Back of the specification: the transposed matrix times a vector.
-/
import Derived.Test.YthkklhfnmodpnaaVecP
set_option linter.unusedSimpArgs false
set_option linter.unusedVariables false
namespace Go.Proofs.Ythkklhfnmodpnaa
open Go.RowKit PM Dt
theorem mtr_cell (g : Nat → Int) {r k : Nat} (hr : r < 3) (hk : k < 3) : mtr g (3 * r + k) = g (3 * k + r) := by
  unfold mtr
  rw [show (3 * r + k) % 3 = k by omega, show (3 * r + k) / 3 = r by omega]
theorem okM_mtr (g : Nat → Int) : okM (mtr g) = okM g := by
  rw [Bool.eq_iff_iff]
  constructor
  · intro h
    refine okM_of fun i hi => ?_
    have := okM_cell h (i := 3 * (i % 3) + i / 3) (by omega)
    rw [mtr_cell g (r := i % 3) (k := i / 3) (by omega) (by omega), show 3 * (i / 3) + i % 3 = i by omega] at this
    exact this
  · intro h
    refine okM_of fun i hi => ?_
    exact okM_cell h (by omega)
theorem okV_same {x y : Nat → Int} (h : ∀ i, i < 3 → x i = y i) : okV x = okV y := by unfold okV; rw [h 0 (by omega), h 1 (by omega), h 2 (by omega)]
theorem res_same {x y : Nat → Int} (h : ∀ i, i < 3 → x i = y i) : vfn (resF x) = vfn (resF y) ∧ resE x = resE y := by
  unfold resF resE
  rw [okV_same h]
  cases okV y
  · exact ⟨rfl, rfl⟩
  · exact ⟨vfn_congr h, rfl⟩
theorem apply_tr (g f : Nat → Int) (i : Nat) (hi : i < 3) : applyX (mtr g) f i = backX g f i := by
  unfold applyX backX d3
  have e : ∀ k, k < 3 → mrow (mtr g) i k = mcol g i k := fun k hk => mtr_cell g hi hk
  rw [e 0 (by omega), e 1 (by omega), e 2 (by omega)]
theorem back_tr (g f : Nat → Int) : vfn (vapplyF (mtr g) f) = vfn (vbackF g f) ∧ vapplyE (mtr g) f = vbackE g f := by
  unfold vapplyF vapplyE vbackF vbackE
  rw [okM_mtr]
  cases okM g && okV f
  · show vfn (fun _ => 0) = vfn (fun _ => 0) ∧ (2 : Int) = 2
    exact ⟨rfl, rfl⟩
  · show vfn (resF (applyX (mtr g) f)) = vfn (resF (backX g f)) ∧ resE (applyX (mtr g) f) = resE (backX g f)
    exact res_same fun i hi => apply_tr g f i hi
set_option maxRecDepth 100000 in
set_option maxHeartbeats 1000000 in
theorem rvback_any (g f : Nat → Int) (w : World) : Calls Try.prog 20 #[.agg (mfn g), .agg (vfn f)] w fun e w' => e = .returned (.tuple #[.agg (vfn (vbackF g f)), .int .i64 (vbackE g f)]) ∧ Below w.heap.size w w' := by
  have T1 := Lib.hid (fun w => turned_any g w)
  have A1 := Lib.hid (fun w => rvapply_any (mtr g) f w)
  rw [(back_tr g f).1, (back_tr g f).2] at A1
  generalize vbackF g f = F at *
  generalize vbackE g f = E at *
  generalize mtr g = h at *
  go_enter Try.func20, Try.ntmps20
  go_upto_region 1 with (fail)
  rw [zero_vec]
  have p : blk (((w.alloc (.cells (mfn g) 25)).alloc (.cells (vfn f) 23)).alloc (.cells (vfn fun _ => 0) 23)) w.heap.size (mfn g) 25 := ((blk.new _ _ _).alloc _).alloc _
  have q : blk (((w.alloc (.cells (mfn g) 25)).alloc (.cells (vfn f) 23)).alloc (.cells (vfn fun _ => 0) 23)) (w.heap.size + 1) (vfn f) 23 := (blk.new' (by simp)).alloc _
  have r : blk (((w.alloc (.cells (mfn g) 25)).alloc (.cells (vfn f) 23)).alloc (.cells (vfn fun _ => 0) 23)) (w.heap.size + 1 + 1) (vfn fun _ => 0) 23 := blk.new' (by simp)
  have hB : Below w.heap.size w (((w.alloc (.cells (mfn g) 25)).alloc (.cells (vfn f) 23)).alloc (.cells (vfn fun _ => 0) 23)) := by go_grown
  generalize ((w.alloc (.cells (mfn g) 25)).alloc (.cells (vfn f) 23)).alloc (.cells (vfn fun _ => 0) 23) = w0 at *
  refine wp_region_X 6 (by kernel_rfl) (by kernel_rfl) ?_
  replace p := p.drew
  replace q := q.drew
  replace r := r.drew
  replace hB : Below w.heap.size w w0.drew := hB.drew
  generalize w0.drew = wo at *
  refine wpX_take 0 (.agg (mfn g)) rfl rfl (by kernel_rfl) (fun w1 h1 => detR_row _ _ rfl _ rfl _ _ _ (p.below h1 p.lt) Try.underlying25 rfl (by rw [mfn_size]; kernel_rfl) rfl) ?_
  simp only [Act.put, List.setIfInBounds_toArray, List.set_cons_zero, List.set_cons_succ]
  refine wpX_take 1 (.agg (mfn h)) rfl rfl (by kernel_rfl) (fun w1 h1 => ?_) ?_
  · go_simp
    refine (T1.out _).mono ?_
    rintro e w2 ⟨rfl, h2⟩
    exact ⟨rfl, h2⟩
  simp only [Act.put, List.setIfInBounds_toArray, List.set_cons_zero, List.set_cons_succ]
  refine wpX_take 2 (.agg (vfn f)) rfl rfl (by kernel_rfl) (fun w1 h1 => detR_row _ _ rfl _ rfl _ _ _ (q.below h1 q.lt) Try.underlying23 rfl (by rw [vfn_size]; kernel_rfl) rfl) ?_
  simp only [Act.put, List.setIfInBounds_toArray, List.set_cons_zero, List.set_cons_succ]
  refine wpX_take 3 (.tuple #[.agg (vfn F), .int .i64 E]) rfl rfl (by kernel_rfl) (fun w1 h1 => ?_) ?_
  · go_simp
    refine (A1.out _).mono ?_
    rintro e w2 ⟨rfl, h2⟩
    exact ⟨rfl, h2⟩
  simp only [Act.put, List.setIfInBounds_toArray, List.set_cons_zero, List.set_cons_succ]
  refine wpX_take 4 (.agg (vfn F)) rfl rfl (by kernel_rfl) (fun w1 h1 => by go_simp; exact ⟨rfl, Below.refl _ _⟩) ?_
  simp only [Act.put, List.setIfInBounds_toArray, List.set_cons_zero, List.set_cons_succ]
  refine wpX_take 5 (.int .i64 E) rfl rfl (by kernel_rfl) (fun w1 h1 => by go_simp; exact ⟨rfl, Below.refl _ _⟩) ?_
  simp only [Act.put, List.setIfInBounds_toArray, List.set_cons_zero, List.set_cons_succ]
  refine wpX_tail (by kernel_rfl) (fun wt ht => ?_)
  simp only [List.drop_succ_cons, List.drop_zero]
  replace hB := hB.trans (ht.mono hB.size)
  replace r := r.below ht r.lt
  clear ht
  go_wp2_with ((refine wpList_store_row rfl _ _ _ rfl _ rfl _ rfl _ _ r (by rw [vfn_size]; kernel_rfl) (by simp only [vfn_size]) (vfn_one _) ?_))
  refine bodyPost_ret (results_vec rfl _ _ _ _ _ _ _ rfl (r.row (vfn F)) Try.underlying23 rfl (by rw [vfn_size]; kernel_rfl)) rfl ?_; refine ⟨?_, Below.setRow hB (by omega) _⟩
  rfl
end Go.Proofs.Ythkklhfnmodpnaa
