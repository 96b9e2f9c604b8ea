/-
  Multiples of vectors, and the specification's differences and multiples.
-/
import Derived.Test.YtkmelddejdikgaaVecH
set_option linter.unusedSimpArgs false
set_option linter.unusedVariables false
namespace Go.Proofs.Ytkmelddejdikgaa
open Go.RowKit PM Dt
theorem sub_add {f g : Nat → Int} (h : ∀ i, i < 3 → I64 (g i)) : vfn (vaddF f (negw g)) = vfn (vsubF f g) ∧ vaddE f (negw g) = vsubE f g := by
  unfold vaddF vsubF vaddE vsubE
  rw [okV_negw h]
  cases hf : okV f
  · show vfn (fun _ => 0) = vfn (fun _ => 0) ∧ (2 : Int) = 2
    exact ⟨rfl, rfl⟩
  cases hg : okV g
  · show vfn (fun _ => 0) = vfn (fun _ => 0) ∧ (2 : Int) = 2
    exact ⟨rfl, rfl⟩
  show vfn (resF (addF f (negw g))) = vfn (resF (subF f g)) ∧ resE (addF f (negw g)) = resE (subF f g)
  refine res_congr (x := addF f (negw g)) (y := subF f g) fun i hi => ?_
  have h2 := (vb_iff _).1 ((okV_iff g).1 hg i hi)
  unfold addF subF negw wrap64; omega
set_option maxRecDepth 100000 in
set_option maxHeartbeats 1000000 in
theorem rvsub_any (f g : Nat → Int) (w : World) (hg : ∀ i, i < 3 → I64 (g i)) : Calls Try.prog 53 #[.agg (vfn f), .agg (vfn g)] w fun e w' => e = .returned (.tuple #[.agg (vfn (vsubF f g)), .int .i64 (vsubE f g)]) ∧ Below w.heap.size w w' := by
  have R := Lib.hid (fun w => rvadd_any f (negw g) w)
  rw [(sub_add hg).1, (sub_add hg).2] at R
  have HX : Hid (#[Value.int .i64 (wrap64 (-g 0)), .int .i64 (wrap64 (-g 1)), .int .i64 (wrap64 (-g 2))] = vfn (negw g)) := by show _ = _; unfold vfn; rfl
  rw [← HX.out] at R
  generalize vsubF f g = F at *
  generalize vsubE f g = E at *
  clear hg HX
  go_enter Try.func53, Try.ntmps53
  go_upto_region 1 with (fail)
  rw [zero_vec]
  have p : blk (((w.alloc (.cells (vfn f) 31)).alloc (.cells (vfn g) 31)).alloc (.cells (vfn fun _ => 0) 31)) w.heap.size (vfn f) 31 := ((blk.new _ _ _).alloc _).alloc _
  have q : blk (((w.alloc (.cells (vfn f) 31)).alloc (.cells (vfn g) 31)).alloc (.cells (vfn fun _ => 0) 31)) (w.heap.size + 1) (vfn g) 31 := (blk.new' (by simp)).alloc _
  have r : blk (((w.alloc (.cells (vfn f) 31)).alloc (.cells (vfn g) 31)).alloc (.cells (vfn fun _ => 0) 31)) (w.heap.size + 1 + 1) (vfn fun _ => 0) 31 := blk.new' (by simp)
  have hB : Below w.heap.size w (((w.alloc (.cells (vfn f) 31)).alloc (.cells (vfn g) 31)).alloc (.cells (vfn fun _ => 0) 31)) := by go_grown
  generalize ((w.alloc (.cells (vfn f) 31)).alloc (.cells (vfn g) 31)).alloc (.cells (vfn fun _ => 0) 31) = w0 at *
  have b0 : w0.cell? ⟨w.heap.size + 1, 0, none⟩ = some (.int .i64 (g 0)) := q.cellIs (vfn_get _ (by omega))
  have b1 : w0.cell? ⟨w.heap.size + 1, 1, none⟩ = some (.int .i64 (g 1)) := q.cellIs (vfn_get _ (by omega))
  have b2 : w0.cell? ⟨w.heap.size + 1, 2, none⟩ = some (.int .i64 (g 2)) := q.cellIs (vfn_get _ (by omega))
  go_wp2_with (first
    | (refine wpList_load_rowG ?hw _ _ rfl _ rfl _ _ _ _ p Try.underlying31 rfl ?hi ?_; (case hw => (first | rfl | (simp [Region.wanted, yielded]; done))); (case hi => (rw [vfn_size]; kernel_rfl)))
    | (go_at_call 114; refine (R.out _).mono ?_; rintro e w2 ⟨rfl, hb⟩; replace hB := hB.trans (hb.mono hB.size); replace r := r.below hb r.lt; clear hb)
    | (refine wpList_store_row rfl _ _ _ rfl _ rfl _ rfl _ _ r (by rw [vfn_size]; kernel_rfl) (by simp only [vfn_size]) (vfn_one _) ?_))
  refine bodyPost_ret (results_vec rfl _ _ _ _ _ _ _ rfl (r.row (vfn F)) Try.underlying31 rfl (by rw [vfn_size]; kernel_rfl)) rfl ?_; refine ⟨?_, Below.setRow hB (by omega) _⟩
  rfl
end Go.Proofs.Ytkmelddejdikgaa
