/-
  Bodies: the examples of the document.
-/
import Derived.Test.YtjnocbjngojigaaBdD
set_option linter.unusedSimpArgs false
set_option linter.unusedVariables false
namespace Go.Proofs.Ytjnocbjngojigaa
open Go.RowKit PM Dt
theorem bod.save {lo hi lo' b : Nat} {w w' : World} {X : BSt} (h : bod lo' b w X) (hs : Save lo hi w w') (ho : b < lo ∨ hi < lo') : bod lo' b w' X := by
  obtain ⟨s, l, u, k, j⟩ := h
  exact ⟨s, l, u, k.save hs (by omega), j.save hs (by omega)⟩
def kn_a0 : BSt := ⟨(of4 1073741824 0 0 0), (of3 0 0 0), (of4 0 0 5 0), -1⟩
theorem kn_a0_I : BI kn_a0 := ⟨of4_I ⟨by omega, by omega⟩ ⟨by omega, by omega⟩ ⟨by omega, by omega⟩ ⟨by omega, by omega⟩, show validQ (of4 1073741824 0 0 0) = true from by decide +kernel, show allB (of3 0 0 0) = true from by decide +kernel, ⟨by decide, by decide, by decide⟩⟩
def kn_a1 : BSt := ⟨(of4 1073741824 0 0 0), (of3 0 0 0), (of4 0 0 0 0), 2⟩
theorem kn_a1_I : BI kn_a1 := ⟨of4_I ⟨by omega, by omega⟩ ⟨by omega, by omega⟩ ⟨by omega, by omega⟩ ⟨by omega, by omega⟩, show validQ (of4 1073741824 0 0 0) = true from by decide +kernel, show allB (of3 0 0 0) = true from by decide +kernel, ⟨by decide, by decide, by decide⟩⟩
def kn_b0 : BSt := ⟨(of4 1073741824 0 0 0), (of3 1048576 0 0), (of4 0 0 0 0), -1⟩
theorem kn_b0_I : BI kn_b0 := ⟨of4_I ⟨by omega, by omega⟩ ⟨by omega, by omega⟩ ⟨by omega, by omega⟩ ⟨by omega, by omega⟩, show validQ (of4 1073741824 0 0 0) = true from by decide +kernel, show allB (of3 1048576 0 0) = true from by decide +kernel, ⟨by decide, by decide, by decide⟩⟩
def kn_b1 : BSt := ⟨(of4 1073739776 2097148 0 0), (of3 1048576 0 0), (of4 0 0 0 0), -1⟩
theorem kn_b1_I : BI kn_b1 := ⟨of4_I ⟨by omega, by omega⟩ ⟨by omega, by omega⟩ ⟨by omega, by omega⟩ ⟨by omega, by omega⟩, show validQ (of4 1073739776 2097148 0 0) = true from by decide +kernel, show allB (of3 1048576 0 0) = true from by decide +kernel, ⟨by decide, by decide, by decide⟩⟩
def kn_b2 : BSt := ⟨(of4 1073733632 4194288 0 0), (of3 1048575 0 0), (of4 0 0 0 0), -1⟩
theorem kn_b2_I : BI kn_b2 := ⟨of4_I ⟨by omega, by omega⟩ ⟨by omega, by omega⟩ ⟨by omega, by omega⟩ ⟨by omega, by omega⟩, show validQ (of4 1073733632 4194288 0 0) = true from by decide +kernel, show allB (of3 1048575 0 0) = true from by decide +kernel, ⟨by decide, by decide, by decide⟩⟩
theorem kn_t1_c : vfn (tickC kn_b0 (of4 0 0 0 0) (of3 1 0 0)) = vfn (of3 0 0 0) := vfn_congr (by decide +kernel)
theorem kn_t1_e : tickE (of3 1 0 0) = 0 := by decide +kernel
theorem kn_t1_q : qfn (tickX kn_b0 (of4 0 0 0 0) (of3 1 0 0)).Q = qfn kn_b1.Q := qfn_congr (by decide +kernel)
theorem kn_t1_t : vfn (tickX kn_b0 (of4 0 0 0 0) (of3 1 0 0)).T = vfn kn_b1.T := vfn_congr (by decide +kernel)
theorem kn_t1_h : qfn (tickX kn_b0 (of4 0 0 0 0) (of3 1 0 0)).h = qfn kn_b1.h := qfn_congr (by decide +kernel)
theorem kn_t1_f : (tickX kn_b0 (of4 0 0 0 0) (of3 1 0 0)).f = kn_b1.f := by decide +kernel
theorem kn_t1_k (lo b : Nat) (w : World) (o : bod lo b w kn_b0) : Calls Try.prog 34 #[.pointer (some ⟨b, 0, none⟩), .agg #[.int .i64 0, .int .i64 0, .int .i64 0, .int .i64 0], .agg #[.int .i64 1, .int .i64 0, .int .i64 0]] w fun e w' => e = .returned (.tuple #[.agg (vfn (of3 0 0 0)), .int .i64 0]) ∧ bod lo b w' kn_b1 ∧ Save lo b w w' := by
  rw [of4_cells, of3_cells]
  refine (btick_any kn_b0 lo b (of4 0 0 0 0) (of3 1 0 0) w o kn_b0_I.q kn_b0_I.s (kn_b0_I.att _).1).mono ?_
  rintro e w' ⟨rfl, o2, hs⟩
  rw [kn_t1_c, kn_t1_e]
  exact ⟨rfl, o2.congr kn_t1_q kn_t1_t kn_t1_h kn_t1_f, hs⟩
theorem kn_t2_c : vfn (tickC kn_b1 (of4 0 0 0 0) (of3 (-1) 0 0)) = vfn (of3 (-1) 0 0) := vfn_congr (by decide +kernel)
theorem kn_t2_e : tickE (of3 (-1) 0 0) = 0 := by decide +kernel
theorem kn_t2_q : qfn (tickX kn_b1 (of4 0 0 0 0) (of3 (-1) 0 0)).Q = qfn kn_b2.Q := qfn_congr (by decide +kernel)
theorem kn_t2_t : vfn (tickX kn_b1 (of4 0 0 0 0) (of3 (-1) 0 0)).T = vfn kn_b2.T := vfn_congr (by decide +kernel)
theorem kn_t2_h : qfn (tickX kn_b1 (of4 0 0 0 0) (of3 (-1) 0 0)).h = qfn kn_b2.h := qfn_congr (by decide +kernel)
theorem kn_t2_f : (tickX kn_b1 (of4 0 0 0 0) (of3 (-1) 0 0)).f = kn_b2.f := by decide +kernel
theorem kn_t2_k (lo b : Nat) (w : World) (o : bod lo b w kn_b1) : Calls Try.prog 34 #[.pointer (some ⟨b, 0, none⟩), .agg #[.int .i64 0, .int .i64 0, .int .i64 0, .int .i64 0], .agg #[.int .i64 (-1), .int .i64 0, .int .i64 0]] w fun e w' => e = .returned (.tuple #[.agg (vfn (of3 (-1) 0 0)), .int .i64 0]) ∧ bod lo b w' kn_b2 ∧ Save lo b w w' := by
  rw [of4_cells, of3_cells]
  refine (btick_any kn_b1 lo b (of4 0 0 0 0) (of3 (-1) 0 0) w o kn_b1_I.q kn_b1_I.s (kn_b1_I.att _).1).mono ?_
  rintro e w' ⟨rfl, o2, hs⟩
  rw [kn_t2_c, kn_t2_e]
  exact ⟨rfl, o2.congr kn_t2_q kn_t2_t kn_t2_h kn_t2_f, hs⟩
theorem kn_t3_c : vfn (tickC kn_b2 (of4 0 0 0 0) (of3 0 1048577 0)) = vfn (of3 0 0 0) := vfn_congr (by decide +kernel)
theorem kn_t3_e : tickE (of3 0 1048577 0) = 2 := by decide +kernel
theorem kn_t3_q : qfn (tickX kn_b2 (of4 0 0 0 0) (of3 0 1048577 0)).Q = qfn kn_b2.Q := qfn_congr (by decide +kernel)
theorem kn_t3_t : vfn (tickX kn_b2 (of4 0 0 0 0) (of3 0 1048577 0)).T = vfn kn_b2.T := vfn_congr (by decide +kernel)
theorem kn_t3_h : qfn (tickX kn_b2 (of4 0 0 0 0) (of3 0 1048577 0)).h = qfn kn_b2.h := qfn_congr (by decide +kernel)
theorem kn_t3_f : (tickX kn_b2 (of4 0 0 0 0) (of3 0 1048577 0)).f = kn_b2.f := by decide +kernel
theorem kn_t3_k (lo b : Nat) (w : World) (o : bod lo b w kn_b2) : Calls Try.prog 34 #[.pointer (some ⟨b, 0, none⟩), .agg #[.int .i64 0, .int .i64 0, .int .i64 0, .int .i64 0], .agg #[.int .i64 0, .int .i64 1048577, .int .i64 0]] w fun e w' => e = .returned (.tuple #[.agg (vfn (of3 0 0 0)), .int .i64 2]) ∧ bod lo b w' kn_b2 ∧ Save lo b w w' := by
  rw [of4_cells, of3_cells]
  refine (btick_any kn_b2 lo b (of4 0 0 0 0) (of3 0 1048577 0) w o kn_b2_I.q kn_b2_I.s (kn_b2_I.att _).1).mono ?_
  rintro e w' ⟨rfl, o2, hs⟩
  rw [kn_t3_c, kn_t3_e]
  exact ⟨rfl, o2.congr kn_t3_q kn_t3_t kn_t3_h kn_t3_f, hs⟩
theorem kn_m0_v : vfn (momF kn_a0) = vfn (of3 0 0 (-5)) := vfn_congr (by decide +kernel)
theorem kn_m0_k (lo b : Nat) (w : World) (o : bod lo b w kn_a0) : Calls Try.prog 28 #[.pointer (some ⟨b, 0, none⟩)] w fun e w' => e = .returned (.agg (vfn (of3 0 0 (-5)))) ∧ Below w.heap.size w w' := by
  rw [← kn_m0_v]
  exact bmom_any kn_a0 lo b w o kn_a0_I.q kn_a0_I.s
theorem kn_m1_v : vfn (momF kn_a1) = vfn (of3 0 0 0) := vfn_congr (by decide +kernel)
theorem kn_m1_k (lo b : Nat) (w : World) (o : bod lo b w kn_a1) : Calls Try.prog 28 #[.pointer (some ⟨b, 0, none⟩)] w fun e w' => e = .returned (.agg (vfn (of3 0 0 0))) ∧ Below w.heap.size w w' := by
  rw [← kn_m1_v]
  exact bmom_any kn_a1 lo b w o kn_a1_I.q kn_a1_I.s
theorem kn_n1_k (w : World) : Calls Try.prog 32 #[.agg #[.int .i64 1073741824, .int .i64 0, .int .i64 0, .int .i64 0], .agg #[.int .i64 0, .int .i64 0, .int .i64 0], .agg #[.int .i64 0, .int .i64 0, .int .i64 5, .int .i64 0], .int .i64 (-1)] w fun e w' => ∃ b, e = .returned (.tuple #[.pointer (some ⟨b, 0, none⟩), .int .i64 0]) ∧ bod w.heap.size b w' kn_a0 ∧ Below w.heap.size w w' := by
  rw [of4_cells, of3_cells, of4_cells]
  exact bnew_ok (of4 1073741824 0 0 0) (of3 0 0 0) (of4 0 0 5 0) (-1) w (of4_I ⟨by omega, by omega⟩ ⟨by omega, by omega⟩ ⟨by omega, by omega⟩ ⟨by omega, by omega⟩) (by decide +kernel) (by decide +kernel) (by decide +kernel)
theorem kn_n2_k (w : World) : Calls Try.prog 32 #[.agg #[.int .i64 1073741824, .int .i64 0, .int .i64 0, .int .i64 0], .agg #[.int .i64 1048576, .int .i64 1, .int .i64 0], .agg #[.int .i64 0, .int .i64 0, .int .i64 0, .int .i64 0], .int .i64 (-1)] w fun e w' => e = .returned (.tuple #[.pointer none, .int .i64 2]) ∧ Below w.heap.size w w' := by
  rw [of4_cells, of3_cells, of4_cells]
  exact bnew_no ⟨(of4 1073741824 0 0 0), (of3 1048576 1 0), (of4 0 0 0 0), -1⟩ w (of4_I ⟨by omega, by omega⟩ ⟨by omega, by omega⟩ ⟨by omega, by omega⟩ ⟨by omega, by omega⟩) (by decide +kernel)
theorem kn_n3_k (w : World) : Calls Try.prog 32 #[.agg #[.int .i64 1073741824, .int .i64 0, .int .i64 0, .int .i64 0], .agg #[.int .i64 1048576, .int .i64 0, .int .i64 0], .agg #[.int .i64 0, .int .i64 0, .int .i64 0, .int .i64 0], .int .i64 (-1)] w fun e w' => ∃ b, e = .returned (.tuple #[.pointer (some ⟨b, 0, none⟩), .int .i64 0]) ∧ bod w.heap.size b w' kn_b0 ∧ Below w.heap.size w w' := by
  rw [of4_cells, of3_cells, of4_cells]
  exact bnew_ok (of4 1073741824 0 0 0) (of3 1048576 0 0) (of4 0 0 0 0) (-1) w (of4_I ⟨by omega, by omega⟩ ⟨by omega, by omega⟩ ⟨by omega, by omega⟩ ⟨by omega, by omega⟩) (by decide +kernel) (by decide +kernel) (by decide +kernel)
theorem kn_f_k (lo b : Nat) (w : World) (o : bod lo b w kn_a0) : Calls Try.prog 33 #[.pointer (some ⟨b, 0, none⟩), .int .i64 2] w fun e w' => e = .returned (.int .i64 0) ∧ bod lo b w' kn_a1 ∧ Save lo b w w' := by
  refine (bfail_any kn_a0 lo b 2 w o).mono ?_
  rintro e w' ⟨rfl, o2, hs⟩
  exact ⟨by rw [show failE kn_a0.f 2 = 0 from by decide +kernel], o2.congr rfl rfl (qfn_congr (by decide +kernel)) (by decide +kernel), hs⟩
set_option maxRecDepth 100000 in
set_option maxHeartbeats 20000000 in
theorem bknown_any  (w : World) : Calls Try.prog 8 #[] w fun e w' => e = .returned (.bool true) ∧ Below w.heap.size w w' := by
  have hB : Below w.heap.size w w := Below.refl _ _
  have N1 := Lib.hid kn_n1_k
  have N2 := Lib.hid kn_n2_k
  have N3 := Lib.hid kn_n3_k
  have M0 := Lib.hid kn_m0_k
  have M1 := Lib.hid kn_m1_k
  have FK := Lib.hid kn_f_k
  have K1 := Lib.hid kn_t1_k
  have K2 := Lib.hid kn_t2_k
  have K3 := Lib.hid kn_t3_k
  have TA := Lib.hid (fun lo b w (o : bod lo b w kn_a1) => btotal_any kn_a1 lo b w o)
  rw [show kn_a1.T = of3 0 0 0 from rfl] at TA
  have TB := Lib.hid (fun lo b w (o : bod lo b w kn_b2) => btotal_any kn_b2 lo b w o)
  rw [show kn_b2.T = of3 1048575 0 0 from rfl] at TB
  have AW := Lib.hid (fun w => awake24_any w)
  have E1 : ∀ w, (Op.equalIn 10000 25 (.agg (vfn (of3 0 0 (-5)))) (.agg #[.int .i64 0, .int .i64 0, .int .i64 (-5)])).run Try.prog w = .ok true w := fun w => by rw [of3_cells]; exact vec_eq_self _ w
  have E2 : ∀ w, (Op.equalIn 10000 25 (.agg (vfn (of3 0 0 0))) (.agg #[.int .i64 0, .int .i64 0, .int .i64 0])).run Try.prog w = .ok true w := fun w => by rw [of3_cells]; exact vec_eq_self _ w
  have E3 : ∀ w, (Op.equalIn 10000 25 (.agg (vfn (of3 (-1) 0 0))) (.agg #[.int .i64 (-1), .int .i64 0, .int .i64 0])).run Try.prog w = .ok true w := fun w => by rw [of3_cells]; exact vec_eq_self _ w
  have E4 : ∀ w, (Op.equalIn 10000 25 (.agg (vfn (of3 1048575 0 0))) (.agg #[.int .i64 1048575, .int .i64 0, .int .i64 0])).run Try.prog w = .ok true w := fun w => by rw [of3_cells]; exact vec_eq_self _ w
  go_enter Try.func8, Try.ntmps8
  go_upto_region 2 with (fail)
  have i : blk (w.alloc (.cells #[Value.int .i64 1073741824, Value.int .i64 0, Value.int .i64 0, Value.int .i64 0] 23)) w.heap.size #[Value.int .i64 1073741824, Value.int .i64 0, Value.int .i64 0, Value.int .i64 0] 23 := blk.new _ _ _
  replace hB := hB.alloc hB.size (.cells #[Value.int .i64 1073741824, Value.int .i64 0, Value.int .i64 0, Value.int .i64 0] 23)
  generalize w.alloc (.cells #[Value.int .i64 1073741824, Value.int .i64 0, Value.int .i64 0, Value.int .i64 0] 23) = wx at *
  have out_i := i.lt
  have hlo1 : w.heap.size ≤ wx.heap.size := hB.size
  go_upto_region 3 with (first | (refine wpList_load_row rfl _ _ rfl _ rfl _ _ _ _ i Try.underlying23 rfl (by kernel_rfl) ?_) | (go_at_call 32; with_reducible refine (N1.out _).mono ?_; rintro e w1 ⟨ba, rfl, oa, hb⟩; replace hB := hB.trans (hb.mono hB.size); replace i := i.below hb i.lt; clear hb))
  have la := oa.lt
  clear N1
  go_upto_region 4 with (first | (refine wpList_load_row rfl _ _ rfl _ rfl _ _ _ _ i Try.underlying23 rfl (by kernel_rfl) ?_) | (go_at_call 32; with_reducible refine (N2.out _).mono ?_; rintro e w2 ⟨rfl, hb⟩; have l2 := hb.size; replace hB := hB.trans (hb.mono hB.size); replace i := i.below hb i.lt; replace oa := oa.below hb oa.lt; clear hb))
  clear N2
  go_upto_region 5 with (first | (refine wpList_load_row rfl _ _ rfl _ rfl _ _ _ _ i Try.underlying23 rfl (by kernel_rfl) ?_) | (go_at_call 32; with_reducible refine (N3.out _).mono ?_; rintro e w3 ⟨bb, rfl, ob, hb⟩; replace hB := hB.trans (hb.mono hB.size); replace i := i.below hb i.lt; replace oa := oa.below hb oa.lt; clear hb))
  have lw1 := hB.size
  have lob := ob.lolt
  have loa := oa.lolt
  clear N3 i
  go_upto_region 7 with (first | (go_at_call 28; with_reducible refine (M0.out _ _ _ oa).mono ?_; rintro e w4 ⟨rfl, hb⟩; replace hB := hB.trans (hb.mono hB.size); replace oa := oa.below hb oa.lt; replace ob := ob.below hb ob.lt; clear hb) | (go_at_call 28; with_reducible refine (M1.out _ _ _ oa).mono ?_; rintro e w4 ⟨rfl, hb⟩; replace hB := hB.trans (hb.mono hB.size); replace oa := oa.below hb oa.lt; replace ob := ob.below hb ob.lt; clear hb) | (go_at_call 29; with_reducible refine (TA.out _ _ _ oa).mono ?_; rintro e w4 ⟨rfl, hb⟩; replace hB := hB.trans (hb.mono hB.size); replace oa := oa.below hb oa.lt; replace ob := ob.below hb ob.lt; clear hb) | (go_at_call 33; with_reducible refine (FK.out _ _ _ oa).mono ?_; rintro e w5 ⟨rfl, o9, hS⟩; replace hB := hB.trans (hS.below hB.size (by omega)); replace ob := ob.save hS (by omega); replace oa := o9; clear hS o9))
  clear oa M0 M1 FK TA E1
  go_upto_region 8 with (first | (go_at_call 34; with_reducible refine (K1.out _ _ _ ob).mono ?_; rintro e wa ⟨rfl, o9, hS⟩; replace hB := hB.trans (hS.below hB.size (by omega)); replace ob := o9; clear hS o9) | (rw [zero_vec]; refine wpList_store_row rfl _ _ _ rfl _ rfl _ rfl _ _ (blk.new _ _ _) (by first | kernel_rfl | (rw [vfn_size]; kernel_rfl)) (by first | rfl | simp only [vfn_size]) (by first | exact vfn_one _ | rfl) ?_))
  have c0 := (blk.new wa (vfn fun _ => 0) 25).row (vfn (of3 0 0 0))
  replace hB := Below.setRow (hB.alloc hB.size (.cells (vfn fun _ => 0) 25)) (g := wa.heap.size) hB.size (vfn (of3 0 0 0))
  have hne : ∀ x, x < wa.heap.size → x ≠ wa.heap.size := fun x hx => Nat.ne_of_lt hx
  have out_c0 : bb < wa.heap.size := ob.lt
  replace ob := (ob.alloc (.cells (vfn fun _ => 0) 25)).rowOther (.inr ob.lt) (vfn (of3 0 0 0))
  clear hne
  generalize (wa.alloc (.cells (vfn fun _ => 0) 25)).setRow wa.heap.size (vfn (of3 0 0 0)) = wax at *
  generalize wa.heap.size = c0_b at *
  clear K1
  go_upto_region 9 with (first | (go_at_call 34; with_reducible refine (K2.out _ _ _ ob).mono ?_; rintro e wb ⟨rfl, o9, hS⟩; replace hB := hB.trans (hS.below hB.size (by omega)); replace c0 := c0.save hS (.inr out_c0); replace ob := o9; clear hS o9) | (rw [zero_vec]; refine wpList_store_row rfl _ _ _ rfl _ rfl _ rfl _ _ (blk.new _ _ _) (by first | kernel_rfl | (rw [vfn_size]; kernel_rfl)) (by first | rfl | simp only [vfn_size]) (by first | exact vfn_one _ | rfl) ?_))
  have c1 := (blk.new wb (vfn fun _ => 0) 25).row (vfn (of3 (-1) 0 0))
  replace hB := Below.setRow (hB.alloc hB.size (.cells (vfn fun _ => 0) 25)) (g := wb.heap.size) hB.size (vfn (of3 (-1) 0 0))
  have hne : ∀ x, x < wb.heap.size → x ≠ wb.heap.size := fun x hx => Nat.ne_of_lt hx
  have out_c1 : bb < wb.heap.size := ob.lt
  replace c0 := (c0.alloc (.cells (vfn fun _ => 0) 25)).rowOther (hne _ c0.lt) (vfn (of3 (-1) 0 0))
  replace ob := (ob.alloc (.cells (vfn fun _ => 0) 25)).rowOther (.inr ob.lt) (vfn (of3 (-1) 0 0))
  clear hne
  generalize (wb.alloc (.cells (vfn fun _ => 0) 25)).setRow wb.heap.size (vfn (of3 (-1) 0 0)) = wbx at *
  generalize wb.heap.size = c1_b at *
  clear K2
  go_upto_region 10 with (first | (go_at_call 34; with_reducible refine (K3.out _ _ _ ob).mono ?_; rintro e wc ⟨rfl, o9, hS⟩; replace hB := hB.trans (hS.below hB.size (by omega)); replace c0 := c0.save hS (.inr out_c0); replace c1 := c1.save hS (.inr out_c1); replace ob := o9; clear hS o9) | (rw [zero_vec]; refine wpList_store_row rfl _ _ _ rfl _ rfl _ rfl _ _ (blk.new _ _ _) (by first | kernel_rfl | (rw [vfn_size]; kernel_rfl)) (by first | rfl | simp only [vfn_size]) (by first | exact vfn_one _ | rfl) ?_))
  have c2 := (blk.new wc (vfn fun _ => 0) 25).row (vfn (of3 0 0 0))
  replace hB := Below.setRow (hB.alloc hB.size (.cells (vfn fun _ => 0) 25)) (g := wc.heap.size) hB.size (vfn (of3 0 0 0))
  have hne : ∀ x, x < wc.heap.size → x ≠ wc.heap.size := fun x hx => Nat.ne_of_lt hx
  have out_c2 : bb < wc.heap.size := ob.lt
  replace c0 := (c0.alloc (.cells (vfn fun _ => 0) 25)).rowOther (hne _ c0.lt) (vfn (of3 0 0 0))
  replace c1 := (c1.alloc (.cells (vfn fun _ => 0) 25)).rowOther (hne _ c1.lt) (vfn (of3 0 0 0))
  replace ob := (ob.alloc (.cells (vfn fun _ => 0) 25)).rowOther (.inr ob.lt) (vfn (of3 0 0 0))
  clear hne
  generalize (wc.alloc (.cells (vfn fun _ => 0) 25)).setRow wc.heap.size (vfn (of3 0 0 0)) = wcx at *
  generalize wc.heap.size = c2_b at *
  clear K3
  go_wp2_with (first
    | (refine wpList_load_rowG ?hw _ _ rfl _ rfl _ _ _ _ c0 Try.underlying25 rfl ?hi ?_; (case hw => (first | rfl | (simp [Region.wanted, yielded]; done))); (case hi => (first | kernel_rfl | (rw [vfn_size]; kernel_rfl))))
    | (refine wpList_load_rowG ?hw _ _ rfl _ rfl _ _ _ _ c1 Try.underlying25 rfl ?hi ?_; (case hw => (first | rfl | (simp [Region.wanted, yielded]; done))); (case hi => (first | kernel_rfl | (rw [vfn_size]; kernel_rfl))))
    | (refine wpList_load_rowG ?hw _ _ rfl _ rfl _ _ _ _ c2 Try.underlying25 rfl ?hi ?_; (case hw => (first | rfl | (simp [Region.wanted, yielded]; done))); (case hi => (first | kernel_rfl | (rw [vfn_size]; kernel_rfl))))
    | (go_at_call 29; with_reducible refine (TB.out _ _ _ ob).mono ?_; rintro e wd ⟨rfl, hb⟩; replace hB := hB.trans (hb.mono hB.size); replace ob := ob.below hb ob.lt; replace c0 := c0.below hb c0.lt; replace c1 := c1.below hb c1.lt; replace c2 := c2.below hb c2.lt; clear hb)
    | (go_at_call 16; with_reducible refine (AW.out _).mono ?_; rintro e we ⟨rfl, hb⟩; replace hB := hB.trans (hb.mono hB.size); clear hb))
  go_ret
  exact ⟨rfl, hB⟩
end Go.Proofs.Ytjnocbjngojigaa
