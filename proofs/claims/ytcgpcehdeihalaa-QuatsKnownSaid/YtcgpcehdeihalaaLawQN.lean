/-
  The examples of the document on quaternions (closed): the walk.
-/
import Derived.Test.YtcgpcehdeihalaaVKq
set_option linter.unusedSimpArgs false
set_option linter.unusedVariables false
namespace Go.Proofs.Ytcgpcehdeihalaa
open Go.RowKit PM Dt
set_option maxRecDepth 100000 in
set_option maxHeartbeats 4000000 in
theorem qknown_any (w : World) : Calls Try.prog 6 #[] w fun e w' => e = .returned (.bool true) ∧ Below w.heap.size w w' := by
  have hI : ∀ a b c d, I64 a → I64 b → I64 c → I64 d → ∀ i, i < 4 → I64 (of4 a b c d i) := fun a b c d ha hb hc hd i hi => by
    have : i = 0 ∨ i = 1 ∨ i = 2 ∨ i = 3 := by omega
    rcases this with rfl | rfl | rfl | rfl
    · exact ha
    · exact hb
    · exact hc
    · exact hd
  have hJ : ∀ a b c, I64 a → I64 b → I64 c → ∀ i, i < 3 → I64 (of3 a b c i) := fun a b c ha hb hc i hi => by
    have : i = 0 ∨ i = 1 ∨ i = 2 := by omega
    rcases this with rfl | rfl | rfl
    · exact ha
    · exact hb
    · exact hc
  have K0 := Lib.hid (fun w => qunit_any (of4 3 0 0 (-4)) w)
  rw [qk0.1, qk0.2] at K0
  have K1 := Lib.hid (fun w => qunit_any (of4 0 0 0 0) w)
  rw [qk1.1, qk1.2] at K1
  have K2 := Lib.hid (fun w => qrot_any (of4 1073741824 0 0 0) (of3 1 2 3) w (hI _ _ _ _ ⟨by decide, by decide⟩ ⟨by decide, by decide⟩ ⟨by decide, by decide⟩ ⟨by decide, by decide⟩))
  rw [qk2.1, qk2.2] at K2
  have K3 := Lib.hid (fun w => qunit_any (of4 1 0 0 1) w)
  rw [qk3.1, qk3.2] at K3
  have K4 := Lib.hid (fun w => qrot_any (of4 759250125 0 0 759250125) (of3 1073741824 0 0) w (hI _ _ _ _ ⟨by decide, by decide⟩ ⟨by decide, by decide⟩ ⟨by decide, by decide⟩ ⟨by decide, by decide⟩))
  rw [qk4.1, qk4.2] at K4
  have K5 := Lib.hid (fun w => qback_any (of4 759250125 0 0 759250125) (of3 1073741824 0 0) w (hI _ _ _ _ ⟨by decide, by decide⟩ ⟨by decide, by decide⟩ ⟨by decide, by decide⟩ ⟨by decide, by decide⟩))
  rw [qk5.1, qk5.2] at K5
  have K6 := Lib.hid (fun w => turn_any (of4 1073741824 0 0 0) (of3 0 0 0) w (hI _ _ _ _ ⟨by decide, by decide⟩ ⟨by decide, by decide⟩ ⟨by decide, by decide⟩ ⟨by decide, by decide⟩) (hJ _ _ _ ⟨by decide, by decide⟩ ⟨by decide, by decide⟩ ⟨by decide, by decide⟩))
  rw [qk6.1, qk6.2] at K6
  have K7 := Lib.hid (fun w => turn_any (of4 1073741824 0 0 0) (of3 0 0 1073741824) w (hI _ _ _ _ ⟨by decide, by decide⟩ ⟨by decide, by decide⟩ ⟨by decide, by decide⟩ ⟨by decide, by decide⟩) (hJ _ _ _ ⟨by decide, by decide⟩ ⟨by decide, by decide⟩ ⟨by decide, by decide⟩))
  rw [qk7.1, qk7.2] at K7
  have K8 := Lib.hid (fun w => between_any (of4 1073741824 0 0 0) (of4 0 0 0 1073741824) w (hI _ _ _ _ ⟨by decide, by decide⟩ ⟨by decide, by decide⟩ ⟨by decide, by decide⟩ ⟨by decide, by decide⟩) (hI _ _ _ _ ⟨by decide, by decide⟩ ⟨by decide, by decide⟩ ⟨by decide, by decide⟩ ⟨by decide, by decide⟩))
  rw [qk8.1, qk8.2] at K8
  have K9 := Lib.hid (fun w => between_any (of4 0 0 0 1073741824) (of4 1073741824 0 0 0) w (hI _ _ _ _ ⟨by decide, by decide⟩ ⟨by decide, by decide⟩ ⟨by decide, by decide⟩ ⟨by decide, by decide⟩) (hI _ _ _ _ ⟨by decide, by decide⟩ ⟨by decide, by decide⟩ ⟨by decide, by decide⟩ ⟨by decide, by decide⟩))
  rw [qk9.1, qk9.2] at K9
  have K10 := Lib.hid (fun w => turn_any (of4 1073741824 0 0 0) (of3 1073741825 0 0) w (hI _ _ _ _ ⟨by decide, by decide⟩ ⟨by decide, by decide⟩ ⟨by decide, by decide⟩ ⟨by decide, by decide⟩) (hJ _ _ _ ⟨by decide, by decide⟩ ⟨by decide, by decide⟩ ⟨by decide, by decide⟩))
  rw [qk10.1, qk10.2] at K10
  have V0 := Lib.hid (fun w => qvalid_any (of4 1073741824 0 0 0) w (hI _ _ _ _ ⟨by decide, by decide⟩ ⟨by decide, by decide⟩ ⟨by decide, by decide⟩ ⟨by decide, by decide⟩))
  rw [valid_i] at V0
  have V1 := Lib.hid (fun w => qvalid_any (of4 1073741829 0 0 0) w (hI _ _ _ _ ⟨by decide, by decide⟩ ⟨by decide, by decide⟩ ⟨by decide, by decide⟩ ⟨by decide, by decide⟩))
  rw [valid_n] at V1
  have hq0 := quat_eq_self (of4 644245094 0 0 (-858993459))
  have hq2 := vec_eq_self (of3 1 2 3)
  have hq4 := vec_eq_self (of3 0 1073741824 0)
  have hq5 := vec_eq_self (of3 0 (-1073741824) 0)
  have hq6 := quat_eq_self (of4 1073741824 0 0 0)
  have hq7 := quat_eq_self (of4 759250125 0 0 759250125)
  have hq8 := quat_eq_self (of4 0 0 0 1073741824)
  have hq9 := quat_eq_self (of4 0 0 0 (-1073741824))
  simp only [← of3_cells, ← of4_cells] at K0 K1 K2 K3 K4 K5 K6 K7 K8 K9 K10 V0 V1 hq0 hq2 hq4 hq5 hq6 hq7 hq8 hq9
  clear hI hJ
  have hB := Below.refl w.heap.size w
  go_enter Try.func6, Try.ntmps6
  go_upto_region 2 with (fail)
  have bi : blk (((w.alloc (.cells #[.int .i64 1073741824, .int .i64 0, .int .i64 0, .int .i64 0] 23)).alloc (.cells #[.int .i64 0, .int .i64 0, .int .i64 0, .int .i64 1073741824] 23)).alloc (.cells #[.int .i64 1073741824, .int .i64 0, .int .i64 0] 25)) w.heap.size #[.int .i64 1073741824, .int .i64 0, .int .i64 0, .int .i64 0] 23 := ((blk.new _ _ _).alloc _).alloc _
  have bz : blk (((w.alloc (.cells #[.int .i64 1073741824, .int .i64 0, .int .i64 0, .int .i64 0] 23)).alloc (.cells #[.int .i64 0, .int .i64 0, .int .i64 0, .int .i64 1073741824] 23)).alloc (.cells #[.int .i64 1073741824, .int .i64 0, .int .i64 0] 25)) (w.heap.size + 1) #[.int .i64 0, .int .i64 0, .int .i64 0, .int .i64 1073741824] 23 := (blk.new' (by simp)).alloc _
  have bx : blk (((w.alloc (.cells #[.int .i64 1073741824, .int .i64 0, .int .i64 0, .int .i64 0] 23)).alloc (.cells #[.int .i64 0, .int .i64 0, .int .i64 0, .int .i64 1073741824] 23)).alloc (.cells #[.int .i64 1073741824, .int .i64 0, .int .i64 0] 25)) (w.heap.size + 2) #[.int .i64 1073741824, .int .i64 0, .int .i64 0] 25 := blk.new' (by simp)
  replace hB : Below w.heap.size w (((w.alloc (.cells #[.int .i64 1073741824, .int .i64 0, .int .i64 0, .int .i64 0] 23)).alloc (.cells #[.int .i64 0, .int .i64 0, .int .i64 0, .int .i64 1073741824] 23)).alloc (.cells #[.int .i64 1073741824, .int .i64 0, .int .i64 0] 25)) := by go_grown
  generalize (((w.alloc (.cells #[.int .i64 1073741824, .int .i64 0, .int .i64 0, .int .i64 0] 23)).alloc (.cells #[.int .i64 0, .int .i64 0, .int .i64 0, .int .i64 1073741824] 23)).alloc (.cells #[.int .i64 1073741824, .int .i64 0, .int .i64 0] 25)) = u_bx at *
  go_upto_region 3 with (first | (go_at_call 23; with_reducible refine (K0.out _).mono ?_; rintro e v0 ⟨rfl, hb⟩; replace hB := hB.trans (hb.mono hB.size); replace bi := bi.below hb bi.lt; replace bz := bz.below hb bz.lt; replace bx := bx.below hb bx.lt; clear hb))
  have r0 := blk.new v0 #[.int .i64 644245094, .int .i64 0, .int .i64 0, .int .i64 (-858993459)] 23
  replace bi := bi.alloc (.cells #[.int .i64 644245094, .int .i64 0, .int .i64 0, .int .i64 (-858993459)] 23)
  replace bz := bz.alloc (.cells #[.int .i64 644245094, .int .i64 0, .int .i64 0, .int .i64 (-858993459)] 23)
  replace bx := bx.alloc (.cells #[.int .i64 644245094, .int .i64 0, .int .i64 0, .int .i64 (-858993459)] 23)
  replace hB := hB.alloc hB.size (.cells #[.int .i64 644245094, .int .i64 0, .int .i64 0, .int .i64 (-858993459)] 23)
  generalize v0.alloc (.cells #[.int .i64 644245094, .int .i64 0, .int .i64 0, .int .i64 (-858993459)] 23) = u_r0 at *
  generalize v0.heap.size = b_r0 at *
  go_upto_region 4 with (first | (go_at_call 23; with_reducible refine (K1.out _).mono ?_; rintro e v1 ⟨rfl, hb⟩; replace hB := hB.trans (hb.mono hB.size); replace bi := bi.below hb bi.lt; replace bz := bz.below hb bz.lt; replace bx := bx.below hb bx.lt; replace r0 := r0.below hb r0.lt; clear hb))
  have r1 := blk.new v1 #[.int .i64 0, .int .i64 0, .int .i64 0, .int .i64 0] 23
  replace bi := bi.alloc (.cells #[.int .i64 0, .int .i64 0, .int .i64 0, .int .i64 0] 23)
  replace bz := bz.alloc (.cells #[.int .i64 0, .int .i64 0, .int .i64 0, .int .i64 0] 23)
  replace bx := bx.alloc (.cells #[.int .i64 0, .int .i64 0, .int .i64 0, .int .i64 0] 23)
  replace r0 := r0.alloc (.cells #[.int .i64 0, .int .i64 0, .int .i64 0, .int .i64 0] 23)
  replace hB := hB.alloc hB.size (.cells #[.int .i64 0, .int .i64 0, .int .i64 0, .int .i64 0] 23)
  generalize v1.alloc (.cells #[.int .i64 0, .int .i64 0, .int .i64 0, .int .i64 0] 23) = u_r1 at *
  generalize v1.heap.size = b_r1 at *
  clear r1
  go_upto_region 5 with (first | (refine wpList_load_rowG ?hw _ _ rfl _ rfl _ _ _ _ bi Try.underlying23 rfl ?hi ?_; (case hw => (first | rfl | (simp [Region.wanted, yielded]; done))); (case hi => kernel_rfl)) | (go_at_call 18; with_reducible refine (K2.out _).mono ?_; rintro e v2 ⟨rfl, hb⟩; replace hB := hB.trans (hb.mono hB.size); replace bi := bi.below hb bi.lt; replace bz := bz.below hb bz.lt; replace bx := bx.below hb bx.lt; replace r0 := r0.below hb r0.lt; clear hb))
  have r2 := blk.new v2 #[.int .i64 1, .int .i64 2, .int .i64 3] 25
  replace bi := bi.alloc (.cells #[.int .i64 1, .int .i64 2, .int .i64 3] 25)
  replace bz := bz.alloc (.cells #[.int .i64 1, .int .i64 2, .int .i64 3] 25)
  replace bx := bx.alloc (.cells #[.int .i64 1, .int .i64 2, .int .i64 3] 25)
  replace r0 := r0.alloc (.cells #[.int .i64 1, .int .i64 2, .int .i64 3] 25)
  replace hB := hB.alloc hB.size (.cells #[.int .i64 1, .int .i64 2, .int .i64 3] 25)
  generalize v2.alloc (.cells #[.int .i64 1, .int .i64 2, .int .i64 3] 25) = u_r2 at *
  generalize v2.heap.size = b_r2 at *
  go_upto_region 6 with (first | (go_at_call 23; with_reducible refine (K3.out _).mono ?_; rintro e v3 ⟨rfl, hb⟩; replace hB := hB.trans (hb.mono hB.size); replace bi := bi.below hb bi.lt; replace bz := bz.below hb bz.lt; replace bx := bx.below hb bx.lt; replace r0 := r0.below hb r0.lt; replace r2 := r2.below hb r2.lt; clear hb))
  have r3 := blk.new v3 #[.int .i64 759250125, .int .i64 0, .int .i64 0, .int .i64 759250125] 23
  replace bi := bi.alloc (.cells #[.int .i64 759250125, .int .i64 0, .int .i64 0, .int .i64 759250125] 23)
  replace bz := bz.alloc (.cells #[.int .i64 759250125, .int .i64 0, .int .i64 0, .int .i64 759250125] 23)
  replace bx := bx.alloc (.cells #[.int .i64 759250125, .int .i64 0, .int .i64 0, .int .i64 759250125] 23)
  replace r0 := r0.alloc (.cells #[.int .i64 759250125, .int .i64 0, .int .i64 0, .int .i64 759250125] 23)
  replace r2 := r2.alloc (.cells #[.int .i64 759250125, .int .i64 0, .int .i64 0, .int .i64 759250125] 23)
  replace hB := hB.alloc hB.size (.cells #[.int .i64 759250125, .int .i64 0, .int .i64 0, .int .i64 759250125] 23)
  generalize v3.alloc (.cells #[.int .i64 759250125, .int .i64 0, .int .i64 0, .int .i64 759250125] 23) = u_r3 at *
  generalize v3.heap.size = b_r3 at *
  go_upto_region 7 with (first | (refine wpList_load_rowG ?hw _ _ rfl _ rfl _ _ _ _ r3 Try.underlying23 rfl ?hi ?_; (case hw => (first | rfl | (simp [Region.wanted, yielded]; done))); (case hi => kernel_rfl)) | (refine wpList_load_rowG ?hw _ _ rfl _ rfl _ _ _ _ bx Try.underlying25 rfl ?hi ?_; (case hw => (first | rfl | (simp [Region.wanted, yielded]; done))); (case hi => kernel_rfl)) | (go_at_call 18; with_reducible refine (K4.out _).mono ?_; rintro e v4 ⟨rfl, hb⟩; replace hB := hB.trans (hb.mono hB.size); replace bi := bi.below hb bi.lt; replace bz := bz.below hb bz.lt; replace bx := bx.below hb bx.lt; replace r0 := r0.below hb r0.lt; replace r2 := r2.below hb r2.lt; replace r3 := r3.below hb r3.lt; clear hb))
  have r4 := blk.new v4 #[.int .i64 0, .int .i64 1073741824, .int .i64 0] 25
  replace bi := bi.alloc (.cells #[.int .i64 0, .int .i64 1073741824, .int .i64 0] 25)
  replace bz := bz.alloc (.cells #[.int .i64 0, .int .i64 1073741824, .int .i64 0] 25)
  replace bx := bx.alloc (.cells #[.int .i64 0, .int .i64 1073741824, .int .i64 0] 25)
  replace r0 := r0.alloc (.cells #[.int .i64 0, .int .i64 1073741824, .int .i64 0] 25)
  replace r2 := r2.alloc (.cells #[.int .i64 0, .int .i64 1073741824, .int .i64 0] 25)
  replace r3 := r3.alloc (.cells #[.int .i64 0, .int .i64 1073741824, .int .i64 0] 25)
  replace hB := hB.alloc hB.size (.cells #[.int .i64 0, .int .i64 1073741824, .int .i64 0] 25)
  generalize v4.alloc (.cells #[.int .i64 0, .int .i64 1073741824, .int .i64 0] 25) = u_r4 at *
  generalize v4.heap.size = b_r4 at *
  go_upto_region 8 with (first | (refine wpList_load_rowG ?hw _ _ rfl _ rfl _ _ _ _ r3 Try.underlying23 rfl ?hi ?_; (case hw => (first | rfl | (simp [Region.wanted, yielded]; done))); (case hi => kernel_rfl)) | (refine wpList_load_rowG ?hw _ _ rfl _ rfl _ _ _ _ bx Try.underlying25 rfl ?hi ?_; (case hw => (first | rfl | (simp [Region.wanted, yielded]; done))); (case hi => kernel_rfl)) | (go_at_call 19; with_reducible refine (K5.out _).mono ?_; rintro e v5 ⟨rfl, hb⟩; replace hB := hB.trans (hb.mono hB.size); replace bi := bi.below hb bi.lt; replace bz := bz.below hb bz.lt; replace bx := bx.below hb bx.lt; replace r0 := r0.below hb r0.lt; replace r2 := r2.below hb r2.lt; replace r3 := r3.below hb r3.lt; replace r4 := r4.below hb r4.lt; clear hb))
  have r5 := blk.new v5 #[.int .i64 0, .int .i64 (-1073741824), .int .i64 0] 25
  replace bi := bi.alloc (.cells #[.int .i64 0, .int .i64 (-1073741824), .int .i64 0] 25)
  replace bz := bz.alloc (.cells #[.int .i64 0, .int .i64 (-1073741824), .int .i64 0] 25)
  replace bx := bx.alloc (.cells #[.int .i64 0, .int .i64 (-1073741824), .int .i64 0] 25)
  replace r0 := r0.alloc (.cells #[.int .i64 0, .int .i64 (-1073741824), .int .i64 0] 25)
  replace r2 := r2.alloc (.cells #[.int .i64 0, .int .i64 (-1073741824), .int .i64 0] 25)
  replace r3 := r3.alloc (.cells #[.int .i64 0, .int .i64 (-1073741824), .int .i64 0] 25)
  replace r4 := r4.alloc (.cells #[.int .i64 0, .int .i64 (-1073741824), .int .i64 0] 25)
  replace hB := hB.alloc hB.size (.cells #[.int .i64 0, .int .i64 (-1073741824), .int .i64 0] 25)
  generalize v5.alloc (.cells #[.int .i64 0, .int .i64 (-1073741824), .int .i64 0] 25) = u_r5 at *
  generalize v5.heap.size = b_r5 at *
  clear r3 bx
  go_upto_region 9 with (first | (refine wpList_load_rowG ?hw _ _ rfl _ rfl _ _ _ _ bi Try.underlying23 rfl ?hi ?_; (case hw => (first | rfl | (simp [Region.wanted, yielded]; done))); (case hi => kernel_rfl)) | (go_at_call 17; with_reducible refine (K6.out _).mono ?_; rintro e v6 ⟨rfl, hb⟩; replace hB := hB.trans (hb.mono hB.size); replace bi := bi.below hb bi.lt; replace bz := bz.below hb bz.lt; replace r0 := r0.below hb r0.lt; replace r2 := r2.below hb r2.lt; replace r4 := r4.below hb r4.lt; replace r5 := r5.below hb r5.lt; clear hb))
  have r6 := blk.new v6 #[.int .i64 1073741824, .int .i64 0, .int .i64 0, .int .i64 0] 23
  replace bi := bi.alloc (.cells #[.int .i64 1073741824, .int .i64 0, .int .i64 0, .int .i64 0] 23)
  replace bz := bz.alloc (.cells #[.int .i64 1073741824, .int .i64 0, .int .i64 0, .int .i64 0] 23)
  replace r0 := r0.alloc (.cells #[.int .i64 1073741824, .int .i64 0, .int .i64 0, .int .i64 0] 23)
  replace r2 := r2.alloc (.cells #[.int .i64 1073741824, .int .i64 0, .int .i64 0, .int .i64 0] 23)
  replace r4 := r4.alloc (.cells #[.int .i64 1073741824, .int .i64 0, .int .i64 0, .int .i64 0] 23)
  replace r5 := r5.alloc (.cells #[.int .i64 1073741824, .int .i64 0, .int .i64 0, .int .i64 0] 23)
  replace hB := hB.alloc hB.size (.cells #[.int .i64 1073741824, .int .i64 0, .int .i64 0, .int .i64 0] 23)
  generalize v6.alloc (.cells #[.int .i64 1073741824, .int .i64 0, .int .i64 0, .int .i64 0] 23) = u_r6 at *
  generalize v6.heap.size = b_r6 at *
  go_upto_region 10 with (first | (refine wpList_load_rowG ?hw _ _ rfl _ rfl _ _ _ _ bi Try.underlying23 rfl ?hi ?_; (case hw => (first | rfl | (simp [Region.wanted, yielded]; done))); (case hi => kernel_rfl)) | (go_at_call 17; with_reducible refine (K7.out _).mono ?_; rintro e v7 ⟨rfl, hb⟩; replace hB := hB.trans (hb.mono hB.size); replace bi := bi.below hb bi.lt; replace bz := bz.below hb bz.lt; replace r0 := r0.below hb r0.lt; replace r2 := r2.below hb r2.lt; replace r4 := r4.below hb r4.lt; replace r5 := r5.below hb r5.lt; replace r6 := r6.below hb r6.lt; clear hb))
  have r7 := blk.new v7 #[.int .i64 759250125, .int .i64 0, .int .i64 0, .int .i64 759250125] 23
  replace bi := bi.alloc (.cells #[.int .i64 759250125, .int .i64 0, .int .i64 0, .int .i64 759250125] 23)
  replace bz := bz.alloc (.cells #[.int .i64 759250125, .int .i64 0, .int .i64 0, .int .i64 759250125] 23)
  replace r0 := r0.alloc (.cells #[.int .i64 759250125, .int .i64 0, .int .i64 0, .int .i64 759250125] 23)
  replace r2 := r2.alloc (.cells #[.int .i64 759250125, .int .i64 0, .int .i64 0, .int .i64 759250125] 23)
  replace r4 := r4.alloc (.cells #[.int .i64 759250125, .int .i64 0, .int .i64 0, .int .i64 759250125] 23)
  replace r5 := r5.alloc (.cells #[.int .i64 759250125, .int .i64 0, .int .i64 0, .int .i64 759250125] 23)
  replace r6 := r6.alloc (.cells #[.int .i64 759250125, .int .i64 0, .int .i64 0, .int .i64 759250125] 23)
  replace hB := hB.alloc hB.size (.cells #[.int .i64 759250125, .int .i64 0, .int .i64 0, .int .i64 759250125] 23)
  generalize v7.alloc (.cells #[.int .i64 759250125, .int .i64 0, .int .i64 0, .int .i64 759250125] 23) = u_r7 at *
  generalize v7.heap.size = b_r7 at *
  go_upto_region 11 with (first | (refine wpList_load_rowG ?hw _ _ rfl _ rfl _ _ _ _ bi Try.underlying23 rfl ?hi ?_; (case hw => (first | rfl | (simp [Region.wanted, yielded]; done))); (case hi => kernel_rfl)) | (refine wpList_load_rowG ?hw _ _ rfl _ rfl _ _ _ _ bz Try.underlying23 rfl ?hi ?_; (case hw => (first | rfl | (simp [Region.wanted, yielded]; done))); (case hi => kernel_rfl)) | (go_at_call 22; with_reducible refine (K8.out _).mono ?_; rintro e v8 ⟨rfl, hb⟩; replace hB := hB.trans (hb.mono hB.size); replace bi := bi.below hb bi.lt; replace bz := bz.below hb bz.lt; replace r0 := r0.below hb r0.lt; replace r2 := r2.below hb r2.lt; replace r4 := r4.below hb r4.lt; replace r5 := r5.below hb r5.lt; replace r6 := r6.below hb r6.lt; replace r7 := r7.below hb r7.lt; clear hb))
  have r8 := blk.new v8 #[.int .i64 0, .int .i64 0, .int .i64 0, .int .i64 1073741824] 23
  replace bi := bi.alloc (.cells #[.int .i64 0, .int .i64 0, .int .i64 0, .int .i64 1073741824] 23)
  replace bz := bz.alloc (.cells #[.int .i64 0, .int .i64 0, .int .i64 0, .int .i64 1073741824] 23)
  replace r0 := r0.alloc (.cells #[.int .i64 0, .int .i64 0, .int .i64 0, .int .i64 1073741824] 23)
  replace r2 := r2.alloc (.cells #[.int .i64 0, .int .i64 0, .int .i64 0, .int .i64 1073741824] 23)
  replace r4 := r4.alloc (.cells #[.int .i64 0, .int .i64 0, .int .i64 0, .int .i64 1073741824] 23)
  replace r5 := r5.alloc (.cells #[.int .i64 0, .int .i64 0, .int .i64 0, .int .i64 1073741824] 23)
  replace r6 := r6.alloc (.cells #[.int .i64 0, .int .i64 0, .int .i64 0, .int .i64 1073741824] 23)
  replace r7 := r7.alloc (.cells #[.int .i64 0, .int .i64 0, .int .i64 0, .int .i64 1073741824] 23)
  replace hB := hB.alloc hB.size (.cells #[.int .i64 0, .int .i64 0, .int .i64 0, .int .i64 1073741824] 23)
  generalize v8.alloc (.cells #[.int .i64 0, .int .i64 0, .int .i64 0, .int .i64 1073741824] 23) = u_r8 at *
  generalize v8.heap.size = b_r8 at *
  go_upto_region 12 with (first | (refine wpList_load_rowG ?hw _ _ rfl _ rfl _ _ _ _ bz Try.underlying23 rfl ?hi ?_; (case hw => (first | rfl | (simp [Region.wanted, yielded]; done))); (case hi => kernel_rfl)) | (refine wpList_load_rowG ?hw _ _ rfl _ rfl _ _ _ _ bi Try.underlying23 rfl ?hi ?_; (case hw => (first | rfl | (simp [Region.wanted, yielded]; done))); (case hi => kernel_rfl)) | (go_at_call 22; with_reducible refine (K9.out _).mono ?_; rintro e v9 ⟨rfl, hb⟩; replace hB := hB.trans (hb.mono hB.size); replace bi := bi.below hb bi.lt; replace bz := bz.below hb bz.lt; replace r0 := r0.below hb r0.lt; replace r2 := r2.below hb r2.lt; replace r4 := r4.below hb r4.lt; replace r5 := r5.below hb r5.lt; replace r6 := r6.below hb r6.lt; replace r7 := r7.below hb r7.lt; replace r8 := r8.below hb r8.lt; clear hb))
  have r9 := blk.new v9 #[.int .i64 0, .int .i64 0, .int .i64 0, .int .i64 (-1073741824)] 23
  replace bi := bi.alloc (.cells #[.int .i64 0, .int .i64 0, .int .i64 0, .int .i64 (-1073741824)] 23)
  replace bz := bz.alloc (.cells #[.int .i64 0, .int .i64 0, .int .i64 0, .int .i64 (-1073741824)] 23)
  replace r0 := r0.alloc (.cells #[.int .i64 0, .int .i64 0, .int .i64 0, .int .i64 (-1073741824)] 23)
  replace r2 := r2.alloc (.cells #[.int .i64 0, .int .i64 0, .int .i64 0, .int .i64 (-1073741824)] 23)
  replace r4 := r4.alloc (.cells #[.int .i64 0, .int .i64 0, .int .i64 0, .int .i64 (-1073741824)] 23)
  replace r5 := r5.alloc (.cells #[.int .i64 0, .int .i64 0, .int .i64 0, .int .i64 (-1073741824)] 23)
  replace r6 := r6.alloc (.cells #[.int .i64 0, .int .i64 0, .int .i64 0, .int .i64 (-1073741824)] 23)
  replace r7 := r7.alloc (.cells #[.int .i64 0, .int .i64 0, .int .i64 0, .int .i64 (-1073741824)] 23)
  replace r8 := r8.alloc (.cells #[.int .i64 0, .int .i64 0, .int .i64 0, .int .i64 (-1073741824)] 23)
  replace hB := hB.alloc hB.size (.cells #[.int .i64 0, .int .i64 0, .int .i64 0, .int .i64 (-1073741824)] 23)
  generalize v9.alloc (.cells #[.int .i64 0, .int .i64 0, .int .i64 0, .int .i64 (-1073741824)] 23) = u_r9 at *
  generalize v9.heap.size = b_r9 at *
  go_upto_region 13 with (first | (refine wpList_load_rowG ?hw _ _ rfl _ rfl _ _ _ _ bi Try.underlying23 rfl ?hi ?_; (case hw => (first | rfl | (simp [Region.wanted, yielded]; done))); (case hi => kernel_rfl)) | (go_at_call 17; with_reducible refine (K10.out _).mono ?_; rintro e v10 ⟨rfl, hb⟩; replace hB := hB.trans (hb.mono hB.size); replace bi := bi.below hb bi.lt; replace bz := bz.below hb bz.lt; replace r0 := r0.below hb r0.lt; replace r2 := r2.below hb r2.lt; replace r4 := r4.below hb r4.lt; replace r5 := r5.below hb r5.lt; replace r6 := r6.below hb r6.lt; replace r7 := r7.below hb r7.lt; replace r8 := r8.below hb r8.lt; replace r9 := r9.below hb r9.lt; clear hb))
  have r10 := blk.new v10 #[.int .i64 0, .int .i64 0, .int .i64 0, .int .i64 0] 23
  replace bi := bi.alloc (.cells #[.int .i64 0, .int .i64 0, .int .i64 0, .int .i64 0] 23)
  replace bz := bz.alloc (.cells #[.int .i64 0, .int .i64 0, .int .i64 0, .int .i64 0] 23)
  replace r0 := r0.alloc (.cells #[.int .i64 0, .int .i64 0, .int .i64 0, .int .i64 0] 23)
  replace r2 := r2.alloc (.cells #[.int .i64 0, .int .i64 0, .int .i64 0, .int .i64 0] 23)
  replace r4 := r4.alloc (.cells #[.int .i64 0, .int .i64 0, .int .i64 0, .int .i64 0] 23)
  replace r5 := r5.alloc (.cells #[.int .i64 0, .int .i64 0, .int .i64 0, .int .i64 0] 23)
  replace r6 := r6.alloc (.cells #[.int .i64 0, .int .i64 0, .int .i64 0, .int .i64 0] 23)
  replace r7 := r7.alloc (.cells #[.int .i64 0, .int .i64 0, .int .i64 0, .int .i64 0] 23)
  replace r8 := r8.alloc (.cells #[.int .i64 0, .int .i64 0, .int .i64 0, .int .i64 0] 23)
  replace r9 := r9.alloc (.cells #[.int .i64 0, .int .i64 0, .int .i64 0, .int .i64 0] 23)
  replace hB := hB.alloc hB.size (.cells #[.int .i64 0, .int .i64 0, .int .i64 0, .int .i64 0] 23)
  generalize v10.alloc (.cells #[.int .i64 0, .int .i64 0, .int .i64 0, .int .i64 0] 23) = u_r10 at *
  generalize v10.heap.size = b_r10 at *
  clear r10
  go_wp2_with (first | (refine wpList_load_rowG ?hw _ _ rfl _ rfl _ _ _ _ bi Try.underlying23 rfl ?hi ?_; (case hw => (first | rfl | (simp [Region.wanted, yielded]; done))); (case hi => kernel_rfl)) | (refine wpList_load_rowG ?hw _ _ rfl _ rfl _ _ _ _ bz Try.underlying23 rfl ?hi ?_; (case hw => (first | rfl | (simp [Region.wanted, yielded]; done))); (case hi => kernel_rfl)) | (refine wpList_load_rowG ?hw _ _ rfl _ rfl _ _ _ _ r0 Try.underlying23 rfl ?hi ?_; (case hw => (first | rfl | (simp [Region.wanted, yielded]; done))); (case hi => kernel_rfl)) | (refine wpList_load_rowG ?hw _ _ rfl _ rfl _ _ _ _ r2 Try.underlying25 rfl ?hi ?_; (case hw => (first | rfl | (simp [Region.wanted, yielded]; done))); (case hi => kernel_rfl)) | (refine wpList_load_rowG ?hw _ _ rfl _ rfl _ _ _ _ r4 Try.underlying25 rfl ?hi ?_; (case hw => (first | rfl | (simp [Region.wanted, yielded]; done))); (case hi => kernel_rfl)) | (refine wpList_load_rowG ?hw _ _ rfl _ rfl _ _ _ _ r5 Try.underlying25 rfl ?hi ?_; (case hw => (first | rfl | (simp [Region.wanted, yielded]; done))); (case hi => kernel_rfl)) | (refine wpList_load_rowG ?hw _ _ rfl _ rfl _ _ _ _ r6 Try.underlying23 rfl ?hi ?_; (case hw => (first | rfl | (simp [Region.wanted, yielded]; done))); (case hi => kernel_rfl)) | (refine wpList_load_rowG ?hw _ _ rfl _ rfl _ _ _ _ r7 Try.underlying23 rfl ?hi ?_; (case hw => (first | rfl | (simp [Region.wanted, yielded]; done))); (case hi => kernel_rfl)) | (refine wpList_load_rowG ?hw _ _ rfl _ rfl _ _ _ _ r8 Try.underlying23 rfl ?hi ?_; (case hw => (first | rfl | (simp [Region.wanted, yielded]; done))); (case hi => kernel_rfl)) | (refine wpList_load_rowG ?hw _ _ rfl _ rfl _ _ _ _ r9 Try.underlying23 rfl ?hi ?_; (case hw => (first | rfl | (simp [Region.wanted, yielded]; done))); (case hi => kernel_rfl)) | (go_at_call 16; with_reducible refine (V0.out _).mono ?_; rintro e wy ⟨rfl, hb⟩; replace hB := hB.trans (hb.mono hB.size); replace bi := bi.below hb bi.lt; replace bz := bz.below hb bz.lt; replace r0 := r0.below hb r0.lt; replace r2 := r2.below hb r2.lt; replace r4 := r4.below hb r4.lt; replace r5 := r5.below hb r5.lt; replace r6 := r6.below hb r6.lt; replace r7 := r7.below hb r7.lt; replace r8 := r8.below hb r8.lt; replace r9 := r9.below hb r9.lt; clear hb) | (go_at_call 16; with_reducible refine (V1.out _).mono ?_; rintro e wz ⟨rfl, hb⟩; replace hB := hB.trans (hb.mono hB.size); replace bi := bi.below hb bi.lt; replace bz := bz.below hb bz.lt; replace r0 := r0.below hb r0.lt; replace r2 := r2.below hb r2.lt; replace r4 := r4.below hb r4.lt; replace r5 := r5.below hb r5.lt; replace r6 := r6.below hb r6.lt; replace r7 := r7.below hb r7.lt; replace r8 := r8.below hb r8.lt; replace r9 := r9.below hb r9.lt; clear hb) | (go_at_call 14; refine (awakeQ_any _).mono ?_; rintro e wx ⟨rfl, hb⟩; replace hB := hB.trans (hb.mono hB.size); clear hb))
  go_ret
  exact ⟨rfl, hB⟩
end Go.Proofs.Ytcgpcehdeihalaa
