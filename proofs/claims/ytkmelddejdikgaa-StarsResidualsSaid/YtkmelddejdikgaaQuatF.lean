/-
  The matrix of a quaternion, in the specification.
-/
import Derived.Test.YtkmelddejdikgaaQuatE
set_option linter.unusedSimpArgs false
set_option linter.unusedVariables false
namespace Go.Proofs.Ytkmelddejdikgaa
open Go.RowKit PM Dt
set_option maxRecDepth 100000 in
set_option maxHeartbeats 8000000 in
theorem rqmat_any (f : Nat → Int) (w : World) (hI : ∀ i, i < 4 → I64 (f i)) : Calls Try.prog 112 #[.agg (qfn f)] w fun e w' => e = .returned (.tuple #[.agg (mfn (qmatF f)), .int .i64 (qmatE f)]) ∧ Below w.heap.size w w' := by
  have V := Lib.hid (fun w => rqvalid_any f w hI)
  unfold qmatF qmatE
  obtain ⟨bv, hv⟩ : ∃ b, validQ f = b := ⟨_, rfl⟩
  rw [hv] at V ⊢
  have HV := Lib.hid hv
  obtain ⟨X, hX⟩ : ∃ X, X = qmatX f := ⟨_, rfl⟩
  rw [← hX]
  have HX0 := Lib.hid hX
  clear hv hX
  go_enter Try.func112, Try.ntmps112
  go_upto_region 1 with (fail)
  rw [zero_mat]
  have p : blk ((w.alloc (.cells (qfn f) 23)).alloc (.cells (mfn fun _ => 0) 168)) w.heap.size (qfn f) 23 := (blk.new _ _ _).alloc _
  have r : blk ((w.alloc (.cells (qfn f) 23)).alloc (.cells (mfn fun _ => 0) 168)) (w.heap.size + 1) (mfn fun _ => 0) 168 := blk.new' (by simp)
  have hB : Below w.heap.size w ((w.alloc (.cells (qfn f) 23)).alloc (.cells (mfn fun _ => 0) 168)) := by go_grown
  generalize (w.alloc (.cells (qfn f) 23)).alloc (.cells (mfn fun _ => 0) 168) = w0 at *
  cases bv
  · go_wp2_with (first
      | (refine wpList_load_rowG ?hw _ _ rfl _ rfl _ _ _ _ p Try.underlying23 rfl ?hi ?_; (case hw => (first | rfl | (simp [Region.wanted, yielded]; done))); (case hi => (rw [qfn_size]; kernel_rfl)))
      | (go_at_call 51; with_reducible refine (V.out _).mono ?_; rintro e w1 ⟨rfl, hb⟩; replace hB := hB.trans (hb.mono hB.size); replace p := p.below hb p.lt; replace r := r.below hb r.lt; clear hb)
      | (rw [zero_mat]; refine wpList_store_row rfl _ _ _ rfl _ rfl _ rfl _ _ r (by rw [mfn_size]; kernel_rfl) (by simp only [mfn_size]) (mfn_one _) ?_))
    refine bodyPost_ret (results_vec rfl _ _ _ _ _ _ _ rfl (r.row (mfn (fun _ => 0))) Try.underlying168 rfl (by rw [mfn_size]; kernel_rfl)) rfl ?_; refine ⟨?_, Below.setRow hB (by omega) _⟩
    rfl
  have ho := validQ_ok hI HV.out
  have S0 : Hid (∀ x y w, blk w x #[.int .i64 (f 0), .int .i64 (f 1), .int .i64 (-f 2), .int .i64 (-f 3)] 2 → blk w y #[.int .i64 (f 0), .int .i64 (f 1), .int .i64 (f 2), .int .i64 (f 3)] 2 → Calls Try.prog 163 #[.slice (some ⟨x, 0, none⟩) 4 4, .slice (some ⟨y, 0, none⟩) 4 4] w fun e w' => e = .returned (.int .i64 (qmatX f 0)) ∧ Below w.heap.size w w') := fun x y w h1 h2 => sq4 (wd_of ho (i := 0) (by omega)).1 (wd_of ho (i := 1) (by omega)).1 (wd_of ho (i := 2) (by omega)).2.1 (wd_of ho (i := 3) (by omega)).2.1 (wd_of ho (i := 0) (by omega)).1 (wd_of ho (i := 1) (by omega)).1 (wd_of ho (i := 2) (by omega)).1 (wd_of ho (i := 3) (by omega)).1 (qmatX f 0) (by rw [rent0]; rfl) x y w _ h1 h2
  have S1 : Hid (∀ x y w, blk w x #[.int .i64 (2 * f 1), .int .i64 (-2 * f 0)] 2 → blk w y #[.int .i64 (f 2), .int .i64 (f 3)] 2 → Calls Try.prog 163 #[.slice (some ⟨x, 0, none⟩) 2 2, .slice (some ⟨y, 0, none⟩) 2 2] w fun e w' => e = .returned (.int .i64 (qmatX f 1)) ∧ Below w.heap.size w w') := fun x y w h1 h2 => sq2 (wd_of ho (i := 1) (by omega)).2.2.1 (wd_of ho (i := 0) (by omega)).2.2.2 (wd_of ho (i := 2) (by omega)).1 (wd_of ho (i := 3) (by omega)).1 (qmatX f 1) (by rw [rent1]; rfl) x y w _ h1 h2
  have S2 : Hid (∀ x y w, blk w x #[.int .i64 (2 * f 1), .int .i64 (2 * f 0)] 2 → blk w y #[.int .i64 (f 3), .int .i64 (f 2)] 2 → Calls Try.prog 163 #[.slice (some ⟨x, 0, none⟩) 2 2, .slice (some ⟨y, 0, none⟩) 2 2] w fun e w' => e = .returned (.int .i64 (qmatX f 2)) ∧ Below w.heap.size w w') := fun x y w h1 h2 => sq2 (wd_of ho (i := 1) (by omega)).2.2.1 (wd_of ho (i := 0) (by omega)).2.2.1 (wd_of ho (i := 3) (by omega)).1 (wd_of ho (i := 2) (by omega)).1 (qmatX f 2) (by rw [rent2]; rfl) x y w _ h1 h2
  have S3 : Hid (∀ x y w, blk w x #[.int .i64 (2 * f 1), .int .i64 (2 * f 0)] 2 → blk w y #[.int .i64 (f 2), .int .i64 (f 3)] 2 → Calls Try.prog 163 #[.slice (some ⟨x, 0, none⟩) 2 2, .slice (some ⟨y, 0, none⟩) 2 2] w fun e w' => e = .returned (.int .i64 (qmatX f 3)) ∧ Below w.heap.size w w') := fun x y w h1 h2 => sq2 (wd_of ho (i := 1) (by omega)).2.2.1 (wd_of ho (i := 0) (by omega)).2.2.1 (wd_of ho (i := 2) (by omega)).1 (wd_of ho (i := 3) (by omega)).1 (qmatX f 3) (by rw [rent3]; rfl) x y w _ h1 h2
  have S4 : Hid (∀ x y w, blk w x #[.int .i64 (f 0), .int .i64 (-f 1), .int .i64 (f 2), .int .i64 (-f 3)] 2 → blk w y #[.int .i64 (f 0), .int .i64 (f 1), .int .i64 (f 2), .int .i64 (f 3)] 2 → Calls Try.prog 163 #[.slice (some ⟨x, 0, none⟩) 4 4, .slice (some ⟨y, 0, none⟩) 4 4] w fun e w' => e = .returned (.int .i64 (qmatX f 4)) ∧ Below w.heap.size w w') := fun x y w h1 h2 => sq4 (wd_of ho (i := 0) (by omega)).1 (wd_of ho (i := 1) (by omega)).2.1 (wd_of ho (i := 2) (by omega)).1 (wd_of ho (i := 3) (by omega)).2.1 (wd_of ho (i := 0) (by omega)).1 (wd_of ho (i := 1) (by omega)).1 (wd_of ho (i := 2) (by omega)).1 (wd_of ho (i := 3) (by omega)).1 (qmatX f 4) (by rw [rent4]; rfl) x y w _ h1 h2
  have S5 : Hid (∀ x y w, blk w x #[.int .i64 (2 * f 2), .int .i64 (-2 * f 0)] 2 → blk w y #[.int .i64 (f 3), .int .i64 (f 1)] 2 → Calls Try.prog 163 #[.slice (some ⟨x, 0, none⟩) 2 2, .slice (some ⟨y, 0, none⟩) 2 2] w fun e w' => e = .returned (.int .i64 (qmatX f 5)) ∧ Below w.heap.size w w') := fun x y w h1 h2 => sq2 (wd_of ho (i := 2) (by omega)).2.2.1 (wd_of ho (i := 0) (by omega)).2.2.2 (wd_of ho (i := 3) (by omega)).1 (wd_of ho (i := 1) (by omega)).1 (qmatX f 5) (by rw [rent5]; rfl) x y w _ h1 h2
  have S6 : Hid (∀ x y w, blk w x #[.int .i64 (2 * f 1), .int .i64 (-2 * f 0)] 2 → blk w y #[.int .i64 (f 3), .int .i64 (f 2)] 2 → Calls Try.prog 163 #[.slice (some ⟨x, 0, none⟩) 2 2, .slice (some ⟨y, 0, none⟩) 2 2] w fun e w' => e = .returned (.int .i64 (qmatX f 6)) ∧ Below w.heap.size w w') := fun x y w h1 h2 => sq2 (wd_of ho (i := 1) (by omega)).2.2.1 (wd_of ho (i := 0) (by omega)).2.2.2 (wd_of ho (i := 3) (by omega)).1 (wd_of ho (i := 2) (by omega)).1 (qmatX f 6) (by rw [rent6]; rfl) x y w _ h1 h2
  have S7 : Hid (∀ x y w, blk w x #[.int .i64 (2 * f 2), .int .i64 (2 * f 0)] 2 → blk w y #[.int .i64 (f 3), .int .i64 (f 1)] 2 → Calls Try.prog 163 #[.slice (some ⟨x, 0, none⟩) 2 2, .slice (some ⟨y, 0, none⟩) 2 2] w fun e w' => e = .returned (.int .i64 (qmatX f 7)) ∧ Below w.heap.size w w') := fun x y w h1 h2 => sq2 (wd_of ho (i := 2) (by omega)).2.2.1 (wd_of ho (i := 0) (by omega)).2.2.1 (wd_of ho (i := 3) (by omega)).1 (wd_of ho (i := 1) (by omega)).1 (qmatX f 7) (by rw [rent7]; rfl) x y w _ h1 h2
  have S8 : Hid (∀ x y w, blk w x #[.int .i64 (f 0), .int .i64 (-f 1), .int .i64 (-f 2), .int .i64 (f 3)] 2 → blk w y #[.int .i64 (f 0), .int .i64 (f 1), .int .i64 (f 2), .int .i64 (f 3)] 2 → Calls Try.prog 163 #[.slice (some ⟨x, 0, none⟩) 4 4, .slice (some ⟨y, 0, none⟩) 4 4] w fun e w' => e = .returned (.int .i64 (qmatX f 8)) ∧ Below w.heap.size w w') := fun x y w h1 h2 => sq4 (wd_of ho (i := 0) (by omega)).1 (wd_of ho (i := 1) (by omega)).2.1 (wd_of ho (i := 2) (by omega)).2.1 (wd_of ho (i := 3) (by omega)).1 (wd_of ho (i := 0) (by omega)).1 (wd_of ho (i := 1) (by omega)).1 (wd_of ho (i := 2) (by omega)).1 (wd_of ho (i := 3) (by omega)).1 (qmatX f 8) (by rw [rent8]; rfl) x y w _ h1 h2
  have wn1 : IntKind.i64.wrap (-f 1) = -f 1 := by have := (vb_iff _).1 ((okQ_iff f).1 ho 1 (by omega)); rw [IntKind.wrap_i64]; omega
  have wn2 : IntKind.i64.wrap (-f 2) = -f 2 := by have := (vb_iff _).1 ((okQ_iff f).1 ho 2 (by omega)); rw [IntKind.wrap_i64]; omega
  have wn3 : IntKind.i64.wrap (-f 3) = -f 3 := by have := (vb_iff _).1 ((okQ_iff f).1 ho 3 (by omega)); rw [IntKind.wrap_i64]; omega
  have wt1 : IntKind.i64.wrap (2 * f 1) = 2 * f 1 := by have := (vb_iff _).1 ((okQ_iff f).1 ho 1 (by omega)); rw [IntKind.wrap_i64]; omega
  have wt2 : IntKind.i64.wrap (2 * f 2) = 2 * f 2 := by have := (vb_iff _).1 ((okQ_iff f).1 ho 2 (by omega)); rw [IntKind.wrap_i64]; omega
  have wt0 : IntKind.i64.wrap (2 * f 0) = 2 * f 0 := by have := (vb_iff _).1 ((okQ_iff f).1 ho 0 (by omega)); rw [IntKind.wrap_i64]; omega
  have wm0 : IntKind.i64.wrap (-2 * f 0) = -2 * f 0 := by have := (vb_iff _).1 ((okQ_iff f).1 ho 0 (by omega)); rw [IntKind.wrap_i64]; omega
  have HX : Hid (#[Value.int .i64 (qmatX f 0), .int .i64 (qmatX f 1), .int .i64 (qmatX f 2), .int .i64 (qmatX f 3), .int .i64 (qmatX f 4), .int .i64 (qmatX f 5), .int .i64 (qmatX f 6), .int .i64 (qmatX f 7), .int .i64 (qmatX f 8)] = mfn (qmatX f)) := by show _ = _; unfold mfn; rfl
  rw [← HX0.out] at S0 S1 S2 S3 S4 S5 S6 S7 S8 HX
  clear hI HV ho HX0
  go_upto_region 3 with (first
      | (refine wpList_load_rowG ?hw _ _ rfl _ rfl _ _ _ _ p Try.underlying23 rfl ?hi ?_; (case hw => (first | rfl | (simp [Region.wanted, yielded]; done))); (case hi => (rw [qfn_size]; kernel_rfl)))
      | (go_at_call 51; with_reducible refine (V.out _).mono ?_; rintro e w1 ⟨rfl, hb⟩; replace hB := hB.trans (hb.mono hB.size); replace p := p.below hb p.lt; replace r := r.below hb r.lt; clear hb))
  refine wp_region_XF 11 (by kernel_rfl) (by kernel_rfl) (fun hfit => ?_)
  replace p := p.drew
  replace r := r.drew
  replace hB : Below w.heap.size w w1.drew := hB.drew
  generalize w1.drew = wo at *
  refine wpX_takeF hfit 0 (.pointer (some ⟨w.heap.size, 0, none⟩)) rfl rfl (by kernel_rfl) (fun w1 h1 => by go_simp; exact ⟨rfl, Below.refl _ _⟩) ?_
  simp only [Act.put, List.setIfInBounds_toArray, List.set_cons_zero, List.set_cons_succ]
  refine wpX_takeF hfit 1 (.int .i64 (f 0)) rfl rfl (by kernel_rfl) (fun w1 h1 => by have hc : w1.cell? ⟨w.heap.size, 0, none⟩ = some (.int .i64 (f 0)) := (p.below h1 p.lt).cellIs (qfn_get _ (by omega)); go_simp; exact ⟨rfl, Below.refl _ _⟩) ?_
  simp only [Act.put, List.setIfInBounds_toArray, List.set_cons_zero, List.set_cons_succ]
  refine wpX_takeF hfit 2 (.pointer (some ⟨w.heap.size, 1, none⟩)) rfl rfl (by kernel_rfl) (fun w1 h1 => by go_simp; exact ⟨rfl, Below.refl _ _⟩) ?_
  simp only [Act.put, List.setIfInBounds_toArray, List.set_cons_zero, List.set_cons_succ]
  refine wpX_takeF hfit 3 (.int .i64 (f 1)) rfl rfl (by kernel_rfl) (fun w1 h1 => by have hc : w1.cell? ⟨w.heap.size, 1, none⟩ = some (.int .i64 (f 1)) := (p.below h1 p.lt).cellIs (qfn_get _ (by omega)); go_simp; exact ⟨rfl, Below.refl _ _⟩) ?_
  simp only [Act.put, List.setIfInBounds_toArray, List.set_cons_zero, List.set_cons_succ]
  refine wpX_takeF hfit 4 (.pointer (some ⟨w.heap.size, 2, none⟩)) rfl rfl (by kernel_rfl) (fun w1 h1 => by go_simp; exact ⟨rfl, Below.refl _ _⟩) ?_
  simp only [Act.put, List.setIfInBounds_toArray, List.set_cons_zero, List.set_cons_succ]
  refine wpX_takeF hfit 5 (.int .i64 (f 2)) rfl rfl (by kernel_rfl) (fun w1 h1 => by have hc : w1.cell? ⟨w.heap.size, 2, none⟩ = some (.int .i64 (f 2)) := (p.below h1 p.lt).cellIs (qfn_get _ (by omega)); go_simp; exact ⟨rfl, Below.refl _ _⟩) ?_
  simp only [Act.put, List.setIfInBounds_toArray, List.set_cons_zero, List.set_cons_succ]
  refine wpX_takeF hfit 6 (.pointer (some ⟨w.heap.size, 3, none⟩)) rfl rfl (by kernel_rfl) (fun w1 h1 => by go_simp; exact ⟨rfl, Below.refl _ _⟩) ?_
  simp only [Act.put, List.setIfInBounds_toArray, List.set_cons_zero, List.set_cons_succ]
  refine wpX_takeF hfit 7 (.int .i64 (f 3)) rfl rfl (by kernel_rfl) (fun w1 h1 => by have hc : w1.cell? ⟨w.heap.size, 3, none⟩ = some (.int .i64 (f 3)) := (p.below h1 p.lt).cellIs (qfn_get _ (by omega)); go_simp; exact ⟨rfl, Below.refl _ _⟩) ?_
  simp only [Act.put, List.setIfInBounds_toArray, List.set_cons_zero, List.set_cons_succ]
  refine wpX_takeF hfit 8 (.int .i64 (f 0)) rfl rfl (by kernel_rfl) (fun w1 h1 => by go_simp; exact ⟨rfl, Below.refl _ _⟩) ?_
  simp only [Act.put, List.setIfInBounds_toArray, List.set_cons_zero, List.set_cons_succ]
  refine wpX_takeF hfit 9 (.int .i64 (f 1)) rfl rfl (by kernel_rfl) (fun w1 h1 => by go_simp; exact ⟨rfl, Below.refl _ _⟩) ?_
  simp only [Act.put, List.setIfInBounds_toArray, List.set_cons_zero, List.set_cons_succ]
  refine wpX_takeF hfit 10 (.int .i64 (f 2)) rfl rfl (by kernel_rfl) (fun w1 h1 => by go_simp; exact ⟨rfl, Below.refl _ _⟩) ?_
  simp only [Act.put, List.setIfInBounds_toArray, List.set_cons_zero, List.set_cons_succ]
  clear hfit
  refine wpX_tail (by kernel_rfl) (fun wt ht => ?_)
  simp only [List.drop_succ_cons, List.drop_zero]
  replace hB := hB.trans (ht.mono hB.size)
  replace p := p.below ht p.lt
  replace r := r.below ht r.lt
  clear ht
  go_upto_region 4 with (fail)
  refine wp_region_lit ?_
  refine wpList_pure (.int .i64 (f 0)) rfl (by go_simp; exact ⟨rfl, rfl⟩) ?_
  simp only [Act.put, List.setIfInBounds_toArray, List.set_cons_zero, List.set_cons_succ]
  refine wpList_pure (.int .i64 (f 1)) rfl (by go_simp; exact ⟨rfl, rfl⟩) ?_
  simp only [Act.put, List.setIfInBounds_toArray, List.set_cons_zero, List.set_cons_succ]
  refine wpList_pure (.int .i64 (f 2)) rfl (by go_simp; exact ⟨rfl, rfl⟩) ?_
  simp only [Act.put, List.setIfInBounds_toArray, List.set_cons_zero, List.set_cons_succ]
  refine wpList_pure (.int .i64 (-f 2)) rfl (by go_simp; exact ⟨by first | rfl | (rw [wn2]; done), rfl⟩) ?_
  simp only [Act.put, List.setIfInBounds_toArray, List.set_cons_zero, List.set_cons_succ]
  refine wpList_pure (.int .i64 (f 3)) rfl (by go_simp; exact ⟨rfl, rfl⟩) ?_
  simp only [Act.put, List.setIfInBounds_toArray, List.set_cons_zero, List.set_cons_succ]
  refine wpList_pure (.int .i64 (-f 3)) rfl (by go_simp; exact ⟨by first | rfl | (rw [wn3]; done), rfl⟩) ?_
  simp only [Act.put, List.setIfInBounds_toArray, List.set_cons_zero, List.set_cons_succ]
  refine wpList_build4 (n0 := f 0) (n1 := f 1) (n2 := -f 2) (n3 := -f 3) rfl rfl rfl rfl rfl rfl Try.underlying41 (by kernel_rfl) (by kernel_rfl) (fun b6 wn hm n6 => ?_)
  simp only [Act.put, List.setIfInBounds_toArray, List.set_cons_zero, List.set_cons_succ]
  replace r := r.below hm r.lt
  replace hB := hB.trans (hm.mono hB.size)
  clear hm
  refine wpList_pure (.int .i64 (f 0)) rfl (by go_simp; exact ⟨rfl, rfl⟩) ?_
  simp only [Act.put, List.setIfInBounds_toArray, List.set_cons_zero, List.set_cons_succ]
  refine wpList_pure (.int .i64 (f 1)) rfl (by go_simp; exact ⟨rfl, rfl⟩) ?_
  simp only [Act.put, List.setIfInBounds_toArray, List.set_cons_zero, List.set_cons_succ]
  refine wpList_pure (.int .i64 (f 2)) rfl (by go_simp; exact ⟨rfl, rfl⟩) ?_
  simp only [Act.put, List.setIfInBounds_toArray, List.set_cons_zero, List.set_cons_succ]
  refine wpList_pure (.int .i64 (f 3)) rfl (by go_simp; exact ⟨rfl, rfl⟩) ?_
  simp only [Act.put, List.setIfInBounds_toArray, List.set_cons_zero, List.set_cons_succ]
  refine wpList_build4 (n0 := f 0) (n1 := f 1) (n2 := f 2) (n3 := f 3) rfl rfl rfl rfl rfl rfl Try.underlying41 (by kernel_rfl) (by kernel_rfl) (fun b11 wn hm n11 => ?_)
  simp only [Act.put, List.setIfInBounds_toArray, List.set_cons_zero, List.set_cons_succ]
  replace r := r.below hm r.lt
  replace hB := hB.trans (hm.mono hB.size)
  replace n6 := n6.below hm n6.lt
  clear hm
  refine wpList_det (.int .i64 (X 0)) rfl ?_ (fun wn hm => ?_)
  · go_simp
    refine (S0.out _ _ _ n6 n11).mono ?_
    rintro e w5 ⟨rfl, h5⟩
    exact ⟨rfl, h5⟩
  simp only [Act.put, List.setIfInBounds_toArray, List.set_cons_zero, List.set_cons_succ]
  clear n6 n11
  replace r := r.below hm r.lt
  replace hB := hB.trans (hm.mono hB.size)
  clear hm
  refine wpList_pure (.int .i64 (f 1)) rfl (by go_simp; exact ⟨rfl, rfl⟩) ?_
  simp only [Act.put, List.setIfInBounds_toArray, List.set_cons_zero, List.set_cons_succ]
  refine wpList_pure (.int .i64 (2 * f 1)) rfl (by go_simp; exact ⟨by first | rfl | (rw [wt1]; done), rfl⟩) ?_
  simp only [Act.put, List.setIfInBounds_toArray, List.set_cons_zero, List.set_cons_succ]
  refine wpList_pure (.int .i64 (f 0)) rfl (by go_simp; exact ⟨rfl, rfl⟩) ?_
  simp only [Act.put, List.setIfInBounds_toArray, List.set_cons_zero, List.set_cons_succ]
  refine wpList_pure (.int .i64 (-2 * f 0)) rfl (by go_simp; exact ⟨by first | rfl | (rw [wm0]; done), rfl⟩) ?_
  simp only [Act.put, List.setIfInBounds_toArray, List.set_cons_zero, List.set_cons_succ]
  refine wpList_build2 (n0 := 2 * f 1) (n1 := -2 * f 0) rfl rfl rfl rfl Try.underlying41 (by kernel_rfl) (by kernel_rfl) (fun b17 wn hm n17 => ?_)
  simp only [Act.put, List.setIfInBounds_toArray, List.set_cons_zero, List.set_cons_succ]
  replace r := r.below hm r.lt
  replace hB := hB.trans (hm.mono hB.size)
  clear hm
  refine wpList_pure (.int .i64 (f 2)) rfl (by go_simp; exact ⟨rfl, rfl⟩) ?_
  simp only [Act.put, List.setIfInBounds_toArray, List.set_cons_zero, List.set_cons_succ]
  refine wpList_pure (.int .i64 (f 3)) rfl (by go_simp; exact ⟨rfl, rfl⟩) ?_
  simp only [Act.put, List.setIfInBounds_toArray, List.set_cons_zero, List.set_cons_succ]
  refine wpList_build2 (n0 := f 2) (n1 := f 3) rfl rfl rfl rfl Try.underlying41 (by kernel_rfl) (by kernel_rfl) (fun b20 wn hm n20 => ?_)
  simp only [Act.put, List.setIfInBounds_toArray, List.set_cons_zero, List.set_cons_succ]
  replace r := r.below hm r.lt
  replace hB := hB.trans (hm.mono hB.size)
  replace n17 := n17.below hm n17.lt
  clear hm
  refine wpList_det (.int .i64 (X 1)) rfl ?_ (fun wn hm => ?_)
  · go_simp
    refine (S1.out _ _ _ n17 n20).mono ?_
    rintro e w5 ⟨rfl, h5⟩
    exact ⟨rfl, h5⟩
  simp only [Act.put, List.setIfInBounds_toArray, List.set_cons_zero, List.set_cons_succ]
  clear n17 n20
  replace r := r.below hm r.lt
  replace hB := hB.trans (hm.mono hB.size)
  clear hm
  refine wpList_pure (.int .i64 (f 1)) rfl (by go_simp; exact ⟨rfl, rfl⟩) ?_
  simp only [Act.put, List.setIfInBounds_toArray, List.set_cons_zero, List.set_cons_succ]
  refine wpList_pure (.int .i64 (2 * f 1)) rfl (by go_simp; exact ⟨by first | rfl | (rw [wt1]; done), rfl⟩) ?_
  simp only [Act.put, List.setIfInBounds_toArray, List.set_cons_zero, List.set_cons_succ]
  refine wpList_pure (.int .i64 (f 0)) rfl (by go_simp; exact ⟨rfl, rfl⟩) ?_
  simp only [Act.put, List.setIfInBounds_toArray, List.set_cons_zero, List.set_cons_succ]
  refine wpList_pure (.int .i64 (2 * f 0)) rfl (by go_simp; exact ⟨by first | rfl | (rw [wt0]; done), rfl⟩) ?_
  simp only [Act.put, List.setIfInBounds_toArray, List.set_cons_zero, List.set_cons_succ]
  refine wpList_build2 (n0 := 2 * f 1) (n1 := 2 * f 0) rfl rfl rfl rfl Try.underlying41 (by kernel_rfl) (by kernel_rfl) (fun b26 wn hm n26 => ?_)
  simp only [Act.put, List.setIfInBounds_toArray, List.set_cons_zero, List.set_cons_succ]
  replace r := r.below hm r.lt
  replace hB := hB.trans (hm.mono hB.size)
  clear hm
  refine wpList_pure (.int .i64 (f 3)) rfl (by go_simp; exact ⟨rfl, rfl⟩) ?_
  simp only [Act.put, List.setIfInBounds_toArray, List.set_cons_zero, List.set_cons_succ]
  refine wpList_pure (.int .i64 (f 2)) rfl (by go_simp; exact ⟨rfl, rfl⟩) ?_
  simp only [Act.put, List.setIfInBounds_toArray, List.set_cons_zero, List.set_cons_succ]
  refine wpList_build2 (n0 := f 3) (n1 := f 2) rfl rfl rfl rfl Try.underlying41 (by kernel_rfl) (by kernel_rfl) (fun b29 wn hm n29 => ?_)
  simp only [Act.put, List.setIfInBounds_toArray, List.set_cons_zero, List.set_cons_succ]
  replace r := r.below hm r.lt
  replace hB := hB.trans (hm.mono hB.size)
  replace n26 := n26.below hm n26.lt
  clear hm
  refine wpList_det (.int .i64 (X 2)) rfl ?_ (fun wn hm => ?_)
  · go_simp
    refine (S2.out _ _ _ n26 n29).mono ?_
    rintro e w5 ⟨rfl, h5⟩
    exact ⟨rfl, h5⟩
  simp only [Act.put, List.setIfInBounds_toArray, List.set_cons_zero, List.set_cons_succ]
  clear n26 n29
  replace r := r.below hm r.lt
  replace hB := hB.trans (hm.mono hB.size)
  clear hm
  refine wpList_pure (.agg #[.int .i64 (X 0), .int .i64 (X 1), .int .i64 (X 2)]) rfl (by go_simp; exact ⟨rfl, rfl⟩) ?_
  simp only [Act.put, List.setIfInBounds_toArray, List.set_cons_zero, List.set_cons_succ]
  refine wpList_pure (.int .i64 (f 1)) rfl (by go_simp; exact ⟨rfl, rfl⟩) ?_
  simp only [Act.put, List.setIfInBounds_toArray, List.set_cons_zero, List.set_cons_succ]
  refine wpList_pure (.int .i64 (2 * f 1)) rfl (by go_simp; exact ⟨by first | rfl | (rw [wt1]; done), rfl⟩) ?_
  simp only [Act.put, List.setIfInBounds_toArray, List.set_cons_zero, List.set_cons_succ]
  refine wpList_pure (.int .i64 (f 0)) rfl (by go_simp; exact ⟨rfl, rfl⟩) ?_
  simp only [Act.put, List.setIfInBounds_toArray, List.set_cons_zero, List.set_cons_succ]
  refine wpList_pure (.int .i64 (2 * f 0)) rfl (by go_simp; exact ⟨by first | rfl | (rw [wt0]; done), rfl⟩) ?_
  simp only [Act.put, List.setIfInBounds_toArray, List.set_cons_zero, List.set_cons_succ]
  refine wpList_build2 (n0 := 2 * f 1) (n1 := 2 * f 0) rfl rfl rfl rfl Try.underlying41 (by kernel_rfl) (by kernel_rfl) (fun b36 wn hm n36 => ?_)
  simp only [Act.put, List.setIfInBounds_toArray, List.set_cons_zero, List.set_cons_succ]
  replace r := r.below hm r.lt
  replace hB := hB.trans (hm.mono hB.size)
  clear hm
  refine wpList_pure (.int .i64 (f 2)) rfl (by go_simp; exact ⟨rfl, rfl⟩) ?_
  simp only [Act.put, List.setIfInBounds_toArray, List.set_cons_zero, List.set_cons_succ]
  refine wpList_pure (.int .i64 (f 3)) rfl (by go_simp; exact ⟨rfl, rfl⟩) ?_
  simp only [Act.put, List.setIfInBounds_toArray, List.set_cons_zero, List.set_cons_succ]
  refine wpList_build2 (n0 := f 2) (n1 := f 3) rfl rfl rfl rfl Try.underlying41 (by kernel_rfl) (by kernel_rfl) (fun b39 wn hm n39 => ?_)
  simp only [Act.put, List.setIfInBounds_toArray, List.set_cons_zero, List.set_cons_succ]
  replace r := r.below hm r.lt
  replace hB := hB.trans (hm.mono hB.size)
  replace n36 := n36.below hm n36.lt
  clear hm
  refine wpList_det (.int .i64 (X 3)) rfl ?_ (fun wn hm => ?_)
  · go_simp
    refine (S3.out _ _ _ n36 n39).mono ?_
    rintro e w5 ⟨rfl, h5⟩
    exact ⟨rfl, h5⟩
  simp only [Act.put, List.setIfInBounds_toArray, List.set_cons_zero, List.set_cons_succ]
  clear n36 n39
  replace r := r.below hm r.lt
  replace hB := hB.trans (hm.mono hB.size)
  clear hm
  refine wpList_pure (.int .i64 (f 0)) rfl (by go_simp; exact ⟨rfl, rfl⟩) ?_
  simp only [Act.put, List.setIfInBounds_toArray, List.set_cons_zero, List.set_cons_succ]
  refine wpList_pure (.int .i64 (f 1)) rfl (by go_simp; exact ⟨rfl, rfl⟩) ?_
  simp only [Act.put, List.setIfInBounds_toArray, List.set_cons_zero, List.set_cons_succ]
  refine wpList_pure (.int .i64 (-f 1)) rfl (by go_simp; exact ⟨by first | rfl | (rw [wn1]; done), rfl⟩) ?_
  simp only [Act.put, List.setIfInBounds_toArray, List.set_cons_zero, List.set_cons_succ]
  refine wpList_pure (.int .i64 (f 2)) rfl (by go_simp; exact ⟨rfl, rfl⟩) ?_
  simp only [Act.put, List.setIfInBounds_toArray, List.set_cons_zero, List.set_cons_succ]
  refine wpList_pure (.int .i64 (f 3)) rfl (by go_simp; exact ⟨rfl, rfl⟩) ?_
  simp only [Act.put, List.setIfInBounds_toArray, List.set_cons_zero, List.set_cons_succ]
  refine wpList_pure (.int .i64 (-f 3)) rfl (by go_simp; exact ⟨by first | rfl | (rw [wn3]; done), rfl⟩) ?_
  simp only [Act.put, List.setIfInBounds_toArray, List.set_cons_zero, List.set_cons_succ]
  refine wpList_build4 (n0 := f 0) (n1 := -f 1) (n2 := f 2) (n3 := -f 3) rfl rfl rfl rfl rfl rfl Try.underlying41 (by kernel_rfl) (by kernel_rfl) (fun b47 wn hm n47 => ?_)
  simp only [Act.put, List.setIfInBounds_toArray, List.set_cons_zero, List.set_cons_succ]
  replace r := r.below hm r.lt
  replace hB := hB.trans (hm.mono hB.size)
  clear hm
  refine wpList_pure (.int .i64 (f 0)) rfl (by go_simp; exact ⟨rfl, rfl⟩) ?_
  simp only [Act.put, List.setIfInBounds_toArray, List.set_cons_zero, List.set_cons_succ]
  refine wpList_pure (.int .i64 (f 1)) rfl (by go_simp; exact ⟨rfl, rfl⟩) ?_
  simp only [Act.put, List.setIfInBounds_toArray, List.set_cons_zero, List.set_cons_succ]
  refine wpList_pure (.int .i64 (f 2)) rfl (by go_simp; exact ⟨rfl, rfl⟩) ?_
  simp only [Act.put, List.setIfInBounds_toArray, List.set_cons_zero, List.set_cons_succ]
  refine wpList_pure (.int .i64 (f 3)) rfl (by go_simp; exact ⟨rfl, rfl⟩) ?_
  simp only [Act.put, List.setIfInBounds_toArray, List.set_cons_zero, List.set_cons_succ]
  refine wpList_build4 (n0 := f 0) (n1 := f 1) (n2 := f 2) (n3 := f 3) rfl rfl rfl rfl rfl rfl Try.underlying41 (by kernel_rfl) (by kernel_rfl) (fun b52 wn hm n52 => ?_)
  simp only [Act.put, List.setIfInBounds_toArray, List.set_cons_zero, List.set_cons_succ]
  replace r := r.below hm r.lt
  replace hB := hB.trans (hm.mono hB.size)
  replace n47 := n47.below hm n47.lt
  clear hm
  refine wpList_det (.int .i64 (X 4)) rfl ?_ (fun wn hm => ?_)
  · go_simp
    refine (S4.out _ _ _ n47 n52).mono ?_
    rintro e w5 ⟨rfl, h5⟩
    exact ⟨rfl, h5⟩
  simp only [Act.put, List.setIfInBounds_toArray, List.set_cons_zero, List.set_cons_succ]
  clear n47 n52
  replace r := r.below hm r.lt
  replace hB := hB.trans (hm.mono hB.size)
  clear hm
  refine wpList_pure (.int .i64 (f 2)) rfl (by go_simp; exact ⟨rfl, rfl⟩) ?_
  simp only [Act.put, List.setIfInBounds_toArray, List.set_cons_zero, List.set_cons_succ]
  refine wpList_pure (.int .i64 (2 * f 2)) rfl (by go_simp; exact ⟨by first | rfl | (rw [wt2]; done), rfl⟩) ?_
  simp only [Act.put, List.setIfInBounds_toArray, List.set_cons_zero, List.set_cons_succ]
  refine wpList_pure (.int .i64 (f 0)) rfl (by go_simp; exact ⟨rfl, rfl⟩) ?_
  simp only [Act.put, List.setIfInBounds_toArray, List.set_cons_zero, List.set_cons_succ]
  refine wpList_pure (.int .i64 (-2 * f 0)) rfl (by go_simp; exact ⟨by first | rfl | (rw [wm0]; done), rfl⟩) ?_
  simp only [Act.put, List.setIfInBounds_toArray, List.set_cons_zero, List.set_cons_succ]
  refine wpList_build2 (n0 := 2 * f 2) (n1 := -2 * f 0) rfl rfl rfl rfl Try.underlying41 (by kernel_rfl) (by kernel_rfl) (fun b58 wn hm n58 => ?_)
  simp only [Act.put, List.setIfInBounds_toArray, List.set_cons_zero, List.set_cons_succ]
  replace r := r.below hm r.lt
  replace hB := hB.trans (hm.mono hB.size)
  clear hm
  refine wpList_pure (.int .i64 (f 3)) rfl (by go_simp; exact ⟨rfl, rfl⟩) ?_
  simp only [Act.put, List.setIfInBounds_toArray, List.set_cons_zero, List.set_cons_succ]
  refine wpList_pure (.int .i64 (f 1)) rfl (by go_simp; exact ⟨rfl, rfl⟩) ?_
  simp only [Act.put, List.setIfInBounds_toArray, List.set_cons_zero, List.set_cons_succ]
  refine wpList_build2 (n0 := f 3) (n1 := f 1) rfl rfl rfl rfl Try.underlying41 (by kernel_rfl) (by kernel_rfl) (fun b61 wn hm n61 => ?_)
  simp only [Act.put, List.setIfInBounds_toArray, List.set_cons_zero, List.set_cons_succ]
  replace r := r.below hm r.lt
  replace hB := hB.trans (hm.mono hB.size)
  replace n58 := n58.below hm n58.lt
  clear hm
  refine wpList_det (.int .i64 (X 5)) rfl ?_ (fun wn hm => ?_)
  · go_simp
    refine (S5.out _ _ _ n58 n61).mono ?_
    rintro e w5 ⟨rfl, h5⟩
    exact ⟨rfl, h5⟩
  simp only [Act.put, List.setIfInBounds_toArray, List.set_cons_zero, List.set_cons_succ]
  clear n58 n61
  replace r := r.below hm r.lt
  replace hB := hB.trans (hm.mono hB.size)
  clear hm
  refine wpList_pure (.agg #[.int .i64 (X 3), .int .i64 (X 4), .int .i64 (X 5)]) rfl (by go_simp; exact ⟨rfl, rfl⟩) ?_
  simp only [Act.put, List.setIfInBounds_toArray, List.set_cons_zero, List.set_cons_succ]
  refine wpList_pure (.int .i64 (f 1)) rfl (by go_simp; exact ⟨rfl, rfl⟩) ?_
  simp only [Act.put, List.setIfInBounds_toArray, List.set_cons_zero, List.set_cons_succ]
  refine wpList_pure (.int .i64 (2 * f 1)) rfl (by go_simp; exact ⟨by first | rfl | (rw [wt1]; done), rfl⟩) ?_
  simp only [Act.put, List.setIfInBounds_toArray, List.set_cons_zero, List.set_cons_succ]
  refine wpList_pure (.int .i64 (f 0)) rfl (by go_simp; exact ⟨rfl, rfl⟩) ?_
  simp only [Act.put, List.setIfInBounds_toArray, List.set_cons_zero, List.set_cons_succ]
  refine wpList_pure (.int .i64 (-2 * f 0)) rfl (by go_simp; exact ⟨by first | rfl | (rw [wm0]; done), rfl⟩) ?_
  simp only [Act.put, List.setIfInBounds_toArray, List.set_cons_zero, List.set_cons_succ]
  refine wpList_build2 (n0 := 2 * f 1) (n1 := -2 * f 0) rfl rfl rfl rfl Try.underlying41 (by kernel_rfl) (by kernel_rfl) (fun b68 wn hm n68 => ?_)
  simp only [Act.put, List.setIfInBounds_toArray, List.set_cons_zero, List.set_cons_succ]
  replace r := r.below hm r.lt
  replace hB := hB.trans (hm.mono hB.size)
  clear hm
  refine wpList_pure (.int .i64 (f 3)) rfl (by go_simp; exact ⟨rfl, rfl⟩) ?_
  simp only [Act.put, List.setIfInBounds_toArray, List.set_cons_zero, List.set_cons_succ]
  refine wpList_pure (.int .i64 (f 2)) rfl (by go_simp; exact ⟨rfl, rfl⟩) ?_
  simp only [Act.put, List.setIfInBounds_toArray, List.set_cons_zero, List.set_cons_succ]
  refine wpList_build2 (n0 := f 3) (n1 := f 2) rfl rfl rfl rfl Try.underlying41 (by kernel_rfl) (by kernel_rfl) (fun b71 wn hm n71 => ?_)
  simp only [Act.put, List.setIfInBounds_toArray, List.set_cons_zero, List.set_cons_succ]
  replace r := r.below hm r.lt
  replace hB := hB.trans (hm.mono hB.size)
  replace n68 := n68.below hm n68.lt
  clear hm
  refine wpList_det (.int .i64 (X 6)) rfl ?_ (fun wn hm => ?_)
  · go_simp
    refine (S6.out _ _ _ n68 n71).mono ?_
    rintro e w5 ⟨rfl, h5⟩
    exact ⟨rfl, h5⟩
  simp only [Act.put, List.setIfInBounds_toArray, List.set_cons_zero, List.set_cons_succ]
  clear n68 n71
  replace r := r.below hm r.lt
  replace hB := hB.trans (hm.mono hB.size)
  clear hm
  refine wpList_pure (.int .i64 (f 2)) rfl (by go_simp; exact ⟨rfl, rfl⟩) ?_
  simp only [Act.put, List.setIfInBounds_toArray, List.set_cons_zero, List.set_cons_succ]
  refine wpList_pure (.int .i64 (2 * f 2)) rfl (by go_simp; exact ⟨by first | rfl | (rw [wt2]; done), rfl⟩) ?_
  simp only [Act.put, List.setIfInBounds_toArray, List.set_cons_zero, List.set_cons_succ]
  refine wpList_pure (.int .i64 (f 0)) rfl (by go_simp; exact ⟨rfl, rfl⟩) ?_
  simp only [Act.put, List.setIfInBounds_toArray, List.set_cons_zero, List.set_cons_succ]
  refine wpList_pure (.int .i64 (2 * f 0)) rfl (by go_simp; exact ⟨by first | rfl | (rw [wt0]; done), rfl⟩) ?_
  simp only [Act.put, List.setIfInBounds_toArray, List.set_cons_zero, List.set_cons_succ]
  refine wpList_build2 (n0 := 2 * f 2) (n1 := 2 * f 0) rfl rfl rfl rfl Try.underlying41 (by kernel_rfl) (by kernel_rfl) (fun b77 wn hm n77 => ?_)
  simp only [Act.put, List.setIfInBounds_toArray, List.set_cons_zero, List.set_cons_succ]
  replace r := r.below hm r.lt
  replace hB := hB.trans (hm.mono hB.size)
  clear hm
  refine wpList_pure (.int .i64 (f 3)) rfl (by go_simp; exact ⟨rfl, rfl⟩) ?_
  simp only [Act.put, List.setIfInBounds_toArray, List.set_cons_zero, List.set_cons_succ]
  refine wpList_pure (.int .i64 (f 1)) rfl (by go_simp; exact ⟨rfl, rfl⟩) ?_
  simp only [Act.put, List.setIfInBounds_toArray, List.set_cons_zero, List.set_cons_succ]
  refine wpList_build2 (n0 := f 3) (n1 := f 1) rfl rfl rfl rfl Try.underlying41 (by kernel_rfl) (by kernel_rfl) (fun b80 wn hm n80 => ?_)
  simp only [Act.put, List.setIfInBounds_toArray, List.set_cons_zero, List.set_cons_succ]
  replace r := r.below hm r.lt
  replace hB := hB.trans (hm.mono hB.size)
  replace n77 := n77.below hm n77.lt
  clear hm
  refine wpList_det (.int .i64 (X 7)) rfl ?_ (fun wn hm => ?_)
  · go_simp
    refine (S7.out _ _ _ n77 n80).mono ?_
    rintro e w5 ⟨rfl, h5⟩
    exact ⟨rfl, h5⟩
  simp only [Act.put, List.setIfInBounds_toArray, List.set_cons_zero, List.set_cons_succ]
  clear n77 n80
  replace r := r.below hm r.lt
  replace hB := hB.trans (hm.mono hB.size)
  clear hm
  refine wpList_pure (.int .i64 (f 0)) rfl (by go_simp; exact ⟨rfl, rfl⟩) ?_
  simp only [Act.put, List.setIfInBounds_toArray, List.set_cons_zero, List.set_cons_succ]
  refine wpList_pure (.int .i64 (f 1)) rfl (by go_simp; exact ⟨rfl, rfl⟩) ?_
  simp only [Act.put, List.setIfInBounds_toArray, List.set_cons_zero, List.set_cons_succ]
  refine wpList_pure (.int .i64 (-f 1)) rfl (by go_simp; exact ⟨by first | rfl | (rw [wn1]; done), rfl⟩) ?_
  simp only [Act.put, List.setIfInBounds_toArray, List.set_cons_zero, List.set_cons_succ]
  refine wpList_pure (.int .i64 (f 2)) rfl (by go_simp; exact ⟨rfl, rfl⟩) ?_
  simp only [Act.put, List.setIfInBounds_toArray, List.set_cons_zero, List.set_cons_succ]
  refine wpList_pure (.int .i64 (-f 2)) rfl (by go_simp; exact ⟨by first | rfl | (rw [wn2]; done), rfl⟩) ?_
  simp only [Act.put, List.setIfInBounds_toArray, List.set_cons_zero, List.set_cons_succ]
  refine wpList_pure (.int .i64 (f 3)) rfl (by go_simp; exact ⟨rfl, rfl⟩) ?_
  simp only [Act.put, List.setIfInBounds_toArray, List.set_cons_zero, List.set_cons_succ]
  refine wpList_build4 (n0 := f 0) (n1 := -f 1) (n2 := -f 2) (n3 := f 3) rfl rfl rfl rfl rfl rfl Try.underlying41 (by kernel_rfl) (by kernel_rfl) (fun b88 wn hm n88 => ?_)
  simp only [Act.put, List.setIfInBounds_toArray, List.set_cons_zero, List.set_cons_succ]
  replace r := r.below hm r.lt
  replace hB := hB.trans (hm.mono hB.size)
  clear hm
  refine wpList_pure (.int .i64 (f 0)) rfl (by go_simp; exact ⟨rfl, rfl⟩) ?_
  simp only [Act.put, List.setIfInBounds_toArray, List.set_cons_zero, List.set_cons_succ]
  refine wpList_pure (.int .i64 (f 1)) rfl (by go_simp; exact ⟨rfl, rfl⟩) ?_
  simp only [Act.put, List.setIfInBounds_toArray, List.set_cons_zero, List.set_cons_succ]
  refine wpList_pure (.int .i64 (f 2)) rfl (by go_simp; exact ⟨rfl, rfl⟩) ?_
  simp only [Act.put, List.setIfInBounds_toArray, List.set_cons_zero, List.set_cons_succ]
  refine wpList_pure (.int .i64 (f 3)) rfl (by go_simp; exact ⟨rfl, rfl⟩) ?_
  simp only [Act.put, List.setIfInBounds_toArray, List.set_cons_zero, List.set_cons_succ]
  refine wpList_build4 (n0 := f 0) (n1 := f 1) (n2 := f 2) (n3 := f 3) rfl rfl rfl rfl rfl rfl Try.underlying41 (by kernel_rfl) (by kernel_rfl) (fun b93 wn hm n93 => ?_)
  simp only [Act.put, List.setIfInBounds_toArray, List.set_cons_zero, List.set_cons_succ]
  replace r := r.below hm r.lt
  replace hB := hB.trans (hm.mono hB.size)
  replace n88 := n88.below hm n88.lt
  clear hm
  refine wpList_det (.int .i64 (X 8)) rfl ?_ (fun wn hm => ?_)
  · go_simp
    refine (S8.out _ _ _ n88 n93).mono ?_
    rintro e w5 ⟨rfl, h5⟩
    exact ⟨rfl, h5⟩
  simp only [Act.put, List.setIfInBounds_toArray, List.set_cons_zero, List.set_cons_succ]
  clear n88 n93
  replace r := r.below hm r.lt
  replace hB := hB.trans (hm.mono hB.size)
  clear hm
  refine wpList_pure (.agg #[.int .i64 (X 6), .int .i64 (X 7), .int .i64 (X 8)]) rfl (by go_simp; exact ⟨rfl, rfl⟩) ?_
  simp only [Act.put, List.setIfInBounds_toArray, List.set_cons_zero, List.set_cons_succ]
  refine wpList_pure (.agg #[.int .i64 (X 0), .int .i64 (X 1), .int .i64 (X 2), .int .i64 (X 3), .int .i64 (X 4), .int .i64 (X 5), .int .i64 (X 6), .int .i64 (X 7), .int .i64 (X 8)]) rfl (by go_simp; exact ⟨rfl, rfl⟩) ?_
  simp only [Act.put, List.setIfInBounds_toArray, List.set_cons_zero, List.set_cons_succ]
  go_wp2_with ((refine wpList_store_row rfl _ _ _ rfl _ rfl (mfn X) (by first | exact congrArg Value.agg HX.out | rfl) _ _ r (by rw [mfn_size]; kernel_rfl) (by simp only [mfn_size]) (mfn_one _) ?_))
  refine bodyPost_ret (results_vec rfl _ _ _ _ _ _ _ rfl (r.row (mfn X)) Try.underlying168 rfl (by rw [mfn_size]; kernel_rfl)) rfl ?_; refine ⟨?_, Below.setRow hB (by omega) _⟩
  rfl
end Go.Proofs.Ytkmelddejdikgaa
