/-
  Controls: the examples of the document.
-/
import Derived.Test.YtjnocbjngojigaaStF
set_option linter.unusedSimpArgs false
set_option linter.unusedVariables false
namespace Go.Proofs.Ytjnocbjngojigaa
open Go.RowKit PM Dt
def kn26_1 : SSt := ⟨(of3 0 0 0), (of3 0 0 0), (of4 0 0 0 0), true⟩
def kn26_2 : SSt := ⟨(of3 0 0 262144), (of3 0 0 0), (of4 131072 131072 (-131072) (-131072)), true⟩
theorem kn26_a_c : qfn (stC aw26_0 (⟨(of3 0 0 0), (of4 0 0 0 0), (-1), (of3 0 0 0), (of4 1073741824 0 0 0)⟩ : SeT) (ptTo (betF (⟨(of3 0 0 0), (of4 0 0 0 0), (-1), (of3 0 0 0), (of4 1073741824 0 0 0)⟩ : SeT).att (of4 0 0 0 1073741824)))) = qfn (of4 0 0 0 0) := qfn_congr (by decide +kernel)
theorem kn26_a_x : ssc (stX aw26_0 (⟨(of3 0 0 0), (of4 0 0 0 0), (-1), (of3 0 0 0), (of4 1073741824 0 0 0)⟩ : SeT) (fun _ => 0) (ptTo (betF (⟨(of3 0 0 0), (of4 0 0 0 0), (-1), (of3 0 0 0), (of4 1073741824 0 0 0)⟩ : SeT).att (of4 0 0 0 1073741824)))) = ssc kn26_1 := ssc_congr (by decide +kernel) (by decide +kernel) (by decide +kernel) (by decide +kernel)
theorem kn26_a_k (b : Nat) (w : World) (g : blk w b (ssc aw26_0) 56) : Calls Try.prog 23 #[.pointer (some ⟨b, 0, none⟩), .agg #[.int .i64 0, .int .i64 0, .int .i64 0, .int .i64 0, .int .i64 0, .int .i64 0, .int .i64 0, .int .i64 (-1), .int .i64 0, .int .i64 0, .int .i64 0, .int .i64 1073741824, .int .i64 0, .int .i64 0, .int .i64 0], .agg #[.int .i64 0, .int .i64 0, .int .i64 0, .int .i64 1073741824]] w fun e w' => e = .returned (.tuple #[.agg (qfn (of4 0 0 0 0)), .int .i64 0]) ∧ blk w' b (ssc kn26_1) 56 ∧ Save b b w w' := by
  rw [show #[.int .i64 0, .int .i64 0, .int .i64 0, .int .i64 0, .int .i64 0, .int .i64 0, .int .i64 0, .int .i64 (-1), .int .i64 0, .int .i64 0, .int .i64 0, .int .i64 1073741824, .int .i64 0, .int .i64 0, .int .i64 0] = sec (⟨(of3 0 0 0), (of4 0 0 0 0), (-1), (of3 0 0 0), (of4 1073741824 0 0 0)⟩ : SeT) from rfl, of4_cells]
  refine (tpoint_ok aw26_0 (⟨(of3 0 0 0), (of4 0 0 0 0), (-1), (of3 0 0 0), (of4 1073741824 0 0 0)⟩ : SeT) (of4 0 0 0 1073741824) b w g (of4_I ⟨by omega, by omega⟩ ⟨by omega, by omega⟩ ⟨by omega, by omega⟩ ⟨by omega, by omega⟩) (of4_I ⟨by omega, by omega⟩ ⟨by omega, by omega⟩ ⟨by omega, by omega⟩ ⟨by omega, by omega⟩) (by decide +kernel) (by decide +kernel) (by decide +kernel) (by decide +kernel) (by decide +kernel)).mono ?_
  rintro e w' ⟨rfl, g2, hs⟩
  rw [kn26_a_c]
  rw [kn26_a_x] at g2
  exact ⟨rfl, g2, hs⟩
theorem kn26_b_c : qfn (stC kn26_1 (⟨(of3 0 0 0), (of4 0 0 0 0), (-1), (of3 0 0 0), (of4 1073741824 0 0 0)⟩ : SeT) (ptTo (betF (⟨(of3 0 0 0), (of4 0 0 0 0), (-1), (of3 0 0 0), (of4 1073741824 0 0 0)⟩ : SeT).att (of4 0 0 0 1073741824)))) = qfn (of4 131072 131072 (-131072) (-131072)) := qfn_congr (by decide +kernel)
theorem kn26_b_x : ssc (stX kn26_1 (⟨(of3 0 0 0), (of4 0 0 0 0), (-1), (of3 0 0 0), (of4 1073741824 0 0 0)⟩ : SeT) (fun _ => 0) (ptTo (betF (⟨(of3 0 0 0), (of4 0 0 0 0), (-1), (of3 0 0 0), (of4 1073741824 0 0 0)⟩ : SeT).att (of4 0 0 0 1073741824)))) = ssc kn26_2 := ssc_congr (by decide +kernel) (by decide +kernel) (by decide +kernel) (by decide +kernel)
theorem kn26_b_k (b : Nat) (w : World) (g : blk w b (ssc kn26_1) 56) : Calls Try.prog 23 #[.pointer (some ⟨b, 0, none⟩), .agg #[.int .i64 0, .int .i64 0, .int .i64 0, .int .i64 0, .int .i64 0, .int .i64 0, .int .i64 0, .int .i64 (-1), .int .i64 0, .int .i64 0, .int .i64 0, .int .i64 1073741824, .int .i64 0, .int .i64 0, .int .i64 0], .agg #[.int .i64 0, .int .i64 0, .int .i64 0, .int .i64 1073741824]] w fun e w' => e = .returned (.tuple #[.agg (qfn (of4 131072 131072 (-131072) (-131072))), .int .i64 0]) ∧ blk w' b (ssc kn26_2) 56 ∧ Save b b w w' := by
  rw [show #[.int .i64 0, .int .i64 0, .int .i64 0, .int .i64 0, .int .i64 0, .int .i64 0, .int .i64 0, .int .i64 (-1), .int .i64 0, .int .i64 0, .int .i64 0, .int .i64 1073741824, .int .i64 0, .int .i64 0, .int .i64 0] = sec (⟨(of3 0 0 0), (of4 0 0 0 0), (-1), (of3 0 0 0), (of4 1073741824 0 0 0)⟩ : SeT) from rfl, of4_cells]
  refine (tpoint_ok kn26_1 (⟨(of3 0 0 0), (of4 0 0 0 0), (-1), (of3 0 0 0), (of4 1073741824 0 0 0)⟩ : SeT) (of4 0 0 0 1073741824) b w g (of4_I ⟨by omega, by omega⟩ ⟨by omega, by omega⟩ ⟨by omega, by omega⟩ ⟨by omega, by omega⟩) (of4_I ⟨by omega, by omega⟩ ⟨by omega, by omega⟩ ⟨by omega, by omega⟩ ⟨by omega, by omega⟩) (by decide +kernel) (by decide +kernel) (by decide +kernel) (by decide +kernel) (by decide +kernel)).mono ?_
  rintro e w' ⟨rfl, g2, hs⟩
  rw [kn26_b_c]
  rw [kn26_b_x] at g2
  exact ⟨rfl, g2, hs⟩
theorem kn26_c_k (b : Nat) (w : World) (g : blk w b (ssc kn26_2) 56) : Calls Try.prog 22 #[.pointer (some ⟨b, 0, none⟩), .agg #[.int .i64 268435457, .int .i64 0, .int .i64 0, .int .i64 0, .int .i64 0, .int .i64 0, .int .i64 0, .int .i64 (-1), .int .i64 0, .int .i64 0, .int .i64 0, .int .i64 0, .int .i64 0, .int .i64 0, .int .i64 0]] w fun e w' => e = .returned (.tuple #[.agg (qfn fun _ => 0), .int .i64 2]) ∧ Below w.heap.size w w' := by
  rw [show #[.int .i64 268435457, .int .i64 0, .int .i64 0, .int .i64 0, .int .i64 0, .int .i64 0, .int .i64 0, .int .i64 (-1), .int .i64 0, .int .i64 0, .int .i64 0, .int .i64 0, .int .i64 0, .int .i64 0, .int .i64 0] = sec (⟨(of3 268435457 0 0), (of4 0 0 0 0), (-1), (of3 0 0 0), (of4 0 0 0 0)⟩ : SeT) from rfl]
  exact trest_no kn26_2 (⟨(of3 268435457 0 0), (of4 0 0 0 0), (-1), (of3 0 0 0), (of4 0 0 0 0)⟩ : SeT) b w g (by decide +kernel)
theorem kn26_d_k (b : Nat) (w : World) (g : blk w b (ssc kn26_2) 56) : Calls Try.prog 23 #[.pointer (some ⟨b, 0, none⟩), .agg #[.int .i64 0, .int .i64 0, .int .i64 0, .int .i64 0, .int .i64 0, .int .i64 0, .int .i64 0, .int .i64 (-1), .int .i64 0, .int .i64 0, .int .i64 0, .int .i64 1073741824, .int .i64 0, .int .i64 0, .int .i64 0], .agg #[.int .i64 0, .int .i64 0, .int .i64 0, .int .i64 0]] w fun e w' => e = .returned (.tuple #[.agg (qfn fun _ => 0), .int .i64 2]) ∧ Below w.heap.size w w' := by
  rw [show #[.int .i64 0, .int .i64 0, .int .i64 0, .int .i64 0, .int .i64 0, .int .i64 0, .int .i64 0, .int .i64 (-1), .int .i64 0, .int .i64 0, .int .i64 0, .int .i64 1073741824, .int .i64 0, .int .i64 0, .int .i64 0] = sec (⟨(of3 0 0 0), (of4 0 0 0 0), (-1), (of3 0 0 0), (of4 1073741824 0 0 0)⟩ : SeT) from rfl, of4_cells]
  exact tpoint_bad kn26_2 (⟨(of3 0 0 0), (of4 0 0 0 0), (-1), (of3 0 0 0), (of4 1073741824 0 0 0)⟩ : SeT) (of4 0 0 0 0) b w g (of4_I ⟨by omega, by omega⟩ ⟨by omega, by omega⟩ ⟨by omega, by omega⟩ ⟨by omega, by omega⟩) (of4_I ⟨by omega, by omega⟩ ⟨by omega, by omega⟩ ⟨by omega, by omega⟩ ⟨by omega, by omega⟩) (by decide +kernel)
theorem kn26_e_k (b : Nat) (w : World) (g : blk w b (ssc kn26_2) 56) : Calls Try.prog 24 #[.pointer (some ⟨b, 0, none⟩), .agg #[.int .i64 0, .int .i64 0, .int .i64 0, .int .i64 0, .int .i64 0, .int .i64 0, .int .i64 0, .int .i64 (-1), .int .i64 2147483649, .int .i64 0, .int .i64 0, .int .i64 0, .int .i64 0, .int .i64 0, .int .i64 0]] w fun e w' => e = .returned (.tuple #[.agg (qfn fun _ => 0), .int .i64 2]) ∧ Below w.heap.size w w' := by
  rw [show #[.int .i64 0, .int .i64 0, .int .i64 0, .int .i64 0, .int .i64 0, .int .i64 0, .int .i64 0, .int .i64 (-1), .int .i64 2147483649, .int .i64 0, .int .i64 0, .int .i64 0, .int .i64 0, .int .i64 0, .int .i64 0] = sec (⟨(of3 0 0 0), (of4 0 0 0 0), (-1), (of3 2147483649 0 0), (of4 0 0 0 0)⟩ : SeT) from rfl]
  exact tsun_no kn26_2 (⟨(of3 0 0 0), (of4 0 0 0 0), (-1), (of3 2147483649 0 0), (of4 0 0 0 0)⟩ : SeT) b w g (by decide +kernel)
theorem kn26_f_k (b : Nat) (w : World) (g : blk w b (ssc kn26_2) 56) : Calls Try.prog 24 #[.pointer (some ⟨b, 0, none⟩), .agg #[.int .i64 0, .int .i64 0, .int .i64 0, .int .i64 1, .int .i64 0, .int .i64 0, .int .i64 0, .int .i64 0, .int .i64 0, .int .i64 0, .int .i64 0, .int .i64 0, .int .i64 0, .int .i64 0, .int .i64 0]] w fun e w' => e = .returned (.tuple #[.agg (qfn fun _ => 0), .int .i64 2]) ∧ Below w.heap.size w w' := by
  rw [show #[.int .i64 0, .int .i64 0, .int .i64 0, .int .i64 1, .int .i64 0, .int .i64 0, .int .i64 0, .int .i64 0, .int .i64 0, .int .i64 0, .int .i64 0, .int .i64 0, .int .i64 0, .int .i64 0, .int .i64 0] = sec (⟨(of3 0 0 0), (of4 1 0 0 0), 0, (of3 0 0 0), (of4 0 0 0 0)⟩ : SeT) from rfl]
  exact tsun_no kn26_2 (⟨(of3 0 0 0), (of4 1 0 0 0), 0, (of3 0 0 0), (of4 0 0 0 0)⟩ : SeT) b w g (by decide +kernel)
set_option maxRecDepth 100000 in
set_option maxHeartbeats 20000000 in
theorem sknown_any  (w : World) : Calls Try.prog 5 #[] w fun e w' => e = .returned (.bool true) ∧ Below w.heap.size w w' := by
  have hB : Below w.heap.size w w := Below.refl _ _
  have NW := Lib.hid (fun w => tnew_any w)
  rw [aw26_z] at NW
  have Ka := Lib.hid kn26_a_k
  have Kb := Lib.hid kn26_b_k
  have Kc := Lib.hid kn26_c_k
  have Kd := Lib.hid kn26_d_k
  have Ke := Lib.hid kn26_e_k
  have Kf := Lib.hid kn26_f_k
  have CO := Lib.hid (fun b w (g : blk w b (ssc kn26_2) 56) => tcmd_any kn26_2 b w g)
  rw [show kn26_2.D = of3 0 0 262144 from rfl] at CO
  have AW := Lib.hid (fun w => awake26_any w)
  have E1 : ∀ w, (Op.equalIn 10000 22 (.agg (qfn (of4 0 0 0 0))) (.agg #[.int .i64 0, .int .i64 0, .int .i64 0, .int .i64 0])).run Try.prog w = .ok true w := fun w => by rw [of4_cells, spdq_eq]; first | (congr 1; done) | (congr 1; simp)
  have E2 : ∀ w, (Op.equalIn 10000 22 (.agg (qfn (of4 131072 131072 (-131072) (-131072)))) (.agg #[.int .i64 131072, .int .i64 131072, .int .i64 (-131072), .int .i64 (-131072)])).run Try.prog w = .ok true w := fun w => by rw [of4_cells, spdq_eq]; first | (congr 1; done) | (congr 1; simp)
  have E3 : ∀ w, (Op.equalIn 10000 25 (.agg (vfn (of3 0 0 262144))) (.agg #[.int .i64 0, .int .i64 0, .int .i64 262144])).run Try.prog w = .ok true w := fun w => by rw [of3_cells]; exact vec_eq_self _ w
  go_enter Try.func5, Try.ntmps5
  go_upto_region 2 with (fail)
  have i : blk (w.alloc (.cells #[.int .i64 1073741824, .int .i64 0, .int .i64 0, .int .i64 0] 23)) w.heap.size #[.int .i64 1073741824, .int .i64 0, .int .i64 0, .int .i64 0] 23 := blk.new _ _ _
  replace hB := hB.alloc hB.size (.cells #[.int .i64 1073741824, .int .i64 0, .int .i64 0, .int .i64 0] 23)
  generalize w.alloc (.cells #[.int .i64 1073741824, .int .i64 0, .int .i64 0, .int .i64 0] 23) = wx at *
  go_upto_region 3 with ((go_at_call 20; with_reducible refine (NW.out _).mono ?_; rintro e w1 ⟨gb, rfl, g, hle, hb⟩; have hl0 : w.heap.size < gb := Nat.lt_of_lt_of_le i.lt hle; replace hB := hB.trans (hb.mono hB.size); replace i := i.below hb i.lt; clear hb hle))
  clear NW
  go_upto_region 6 with ((refine wpList_load_row rfl _ _ rfl _ rfl _ _ _ _ i Try.underlying23 rfl (by kernel_rfl) ?_))
  have gl := g.lt
  have sv : blk (w1.alloc (.cells #[.int .i64 0, .int .i64 0, .int .i64 0, .int .i64 0, .int .i64 0, .int .i64 0, .int .i64 0, .int .i64 (-1), .int .i64 0, .int .i64 0, .int .i64 0, .int .i64 1073741824, .int .i64 0, .int .i64 0, .int .i64 0] 46)) w1.heap.size #[.int .i64 0, .int .i64 0, .int .i64 0, .int .i64 0, .int .i64 0, .int .i64 0, .int .i64 0, .int .i64 (-1), .int .i64 0, .int .i64 0, .int .i64 0, .int .i64 1073741824, .int .i64 0, .int .i64 0, .int .i64 0] 46 := blk.new _ _ _
  replace hB := hB.alloc hB.size (.cells #[.int .i64 0, .int .i64 0, .int .i64 0, .int .i64 0, .int .i64 0, .int .i64 0, .int .i64 0, .int .i64 (-1), .int .i64 0, .int .i64 0, .int .i64 0, .int .i64 1073741824, .int .i64 0, .int .i64 0, .int .i64 0] 46)
  replace g := g.alloc (.cells #[.int .i64 0, .int .i64 0, .int .i64 0, .int .i64 0, .int .i64 0, .int .i64 0, .int .i64 0, .int .i64 (-1), .int .i64 0, .int .i64 0, .int .i64 0, .int .i64 1073741824, .int .i64 0, .int .i64 0, .int .i64 0] 46)
  generalize w1.alloc (.cells #[.int .i64 0, .int .i64 0, .int .i64 0, .int .i64 0, .int .i64 0, .int .i64 0, .int .i64 0, .int .i64 (-1), .int .i64 0, .int .i64 0, .int .i64 0, .int .i64 1073741824, .int .i64 0, .int .i64 0, .int .i64 0] 46) = wy at *
  generalize w1.heap.size = sv_b at *
  clear i
  have hle : w.heap.size ≤ gb := by omega
  have out_sv : gb < sv_b := gl
  clear gl
  go_upto_region 7 with (first | (refine wpList_load_row rfl _ _ rfl _ rfl _ _ _ _ sv Try.underlying46 rfl (by kernel_rfl) ?_) | (go_at_call 23; with_reducible refine (Ka.out _ _ g).mono ?_; rintro e wc0 ⟨rfl, g2, hS⟩; replace hB := hB.trans (hS.below hB.size hle); replace sv := sv.save hS (.inr out_sv); replace g := g2; clear g2 hS) | (rw [zero_spd]; refine wpList_store_row rfl _ _ _ rfl _ rfl _ rfl _ _ (blk.new _ _ _) (by first | kernel_rfl | (rw [qfn_size]; kernel_rfl)) (by first | rfl | simp only [qfn_size]) (by first | exact qfn_one _ | rfl) ?_))
  have gl := g.lt
  have c0 := (blk.new wc0 (qfn fun _ => 0) 22).row (qfn (of4 0 0 0 0))
  replace hB := Below.setRow (hB.alloc hB.size (.cells (qfn fun _ => 0) 22)) (g := wc0.heap.size) hB.size (qfn (of4 0 0 0 0))
  have hne : ∀ x, x < wc0.heap.size → x ≠ wc0.heap.size := fun x hx => Nat.ne_of_lt hx
  replace g := (g.alloc (.cells (qfn fun _ => 0) 22)).rowOther (hne _ g.lt) (qfn (of4 0 0 0 0))
  replace sv := (sv.alloc (.cells (qfn fun _ => 0) 22)).rowOther (hne _ sv.lt) (qfn (of4 0 0 0 0))
  clear hne
  generalize (wc0.alloc (.cells (qfn fun _ => 0) 22)).setRow wc0.heap.size (qfn (of4 0 0 0 0)) = wc0x at *
  generalize wc0.heap.size = c0_b at *
  have out_c0 : gb < c0_b := gl
  clear gl Ka
  go_upto_region 8 with (first | (refine wpList_load_row rfl _ _ rfl _ rfl _ _ _ _ sv Try.underlying46 rfl (by kernel_rfl) ?_) | (go_at_call 23; with_reducible refine (Kb.out _ _ g).mono ?_; rintro e wc1 ⟨rfl, g2, hS⟩; replace hB := hB.trans (hS.below hB.size hle); replace sv := sv.save hS (.inr out_sv); replace c0 := c0.save hS (.inr out_c0); replace g := g2; clear g2 hS) | (rw [zero_spd]; refine wpList_store_row rfl _ _ _ rfl _ rfl _ rfl _ _ (blk.new _ _ _) (by first | kernel_rfl | (rw [qfn_size]; kernel_rfl)) (by first | rfl | simp only [qfn_size]) (by first | exact qfn_one _ | rfl) ?_))
  have gl := g.lt
  have c1 := (blk.new wc1 (qfn fun _ => 0) 22).row (qfn (of4 131072 131072 (-131072) (-131072)))
  replace hB := Below.setRow (hB.alloc hB.size (.cells (qfn fun _ => 0) 22)) (g := wc1.heap.size) hB.size (qfn (of4 131072 131072 (-131072) (-131072)))
  have hne : ∀ x, x < wc1.heap.size → x ≠ wc1.heap.size := fun x hx => Nat.ne_of_lt hx
  replace g := (g.alloc (.cells (qfn fun _ => 0) 22)).rowOther (hne _ g.lt) (qfn (of4 131072 131072 (-131072) (-131072)))
  replace sv := (sv.alloc (.cells (qfn fun _ => 0) 22)).rowOther (hne _ sv.lt) (qfn (of4 131072 131072 (-131072) (-131072)))
  replace c0 := (c0.alloc (.cells (qfn fun _ => 0) 22)).rowOther (hne _ c0.lt) (qfn (of4 131072 131072 (-131072) (-131072)))
  clear hne
  generalize (wc1.alloc (.cells (qfn fun _ => 0) 22)).setRow wc1.heap.size (qfn (of4 131072 131072 (-131072) (-131072))) = wc1x at *
  generalize wc1.heap.size = c1_b at *
  have out_c1 : gb < c1_b := gl
  clear gl Kb
  go_upto_region 11 with (first | (refine wpList_load_rowG ?hw _ _ rfl _ rfl _ _ _ _ c0 Try.underlying22 rfl ?hi ?_; (case hw => (first | rfl | (simp [Region.wanted, yielded]; done))); (case hi => (first | kernel_rfl | (rw [qfn_size]; kernel_rfl)))) | (refine wpList_load_rowG ?hw _ _ rfl _ rfl _ _ _ _ c1 Try.underlying22 rfl ?hi ?_; (case hw => (first | rfl | (simp [Region.wanted, yielded]; done))); (case hi => (first | kernel_rfl | (rw [qfn_size]; kernel_rfl)))) | (go_at_call 21; with_reducible refine (CO.out _ _ g).mono ?_; rintro e wcc ⟨rfl, hb⟩; replace hB := hB.trans (hb.mono hB.size); replace g := g.below hb g.lt; replace sv := sv.below hb sv.lt; replace c0 := c0.below hb c0.lt; replace c1 := c1.below hb c1.lt; clear hb) | (go_at_call 22; with_reducible refine (Kc.out _ _ g).mono ?_; rintro e wc2 ⟨rfl, hb⟩; replace hB := hB.trans (hb.mono hB.size); replace g := g.below hb g.lt; replace sv := sv.below hb sv.lt; replace c0 := c0.below hb c0.lt; replace c1 := c1.below hb c1.lt; clear hb) | (rw [zero_spd]; refine wpList_store_row rfl _ _ _ rfl _ rfl _ rfl _ _ (blk.new _ _ _) (by first | kernel_rfl | (rw [qfn_size]; kernel_rfl)) (by first | rfl | simp only [qfn_size]) (by first | exact qfn_one _ | rfl) ?_))
  have gl := g.lt
  have c2 := (blk.new wc2 (qfn fun _ => 0) 22).row (qfn (fun _ => 0))
  replace hB := Below.setRow (hB.alloc hB.size (.cells (qfn fun _ => 0) 22)) (g := wc2.heap.size) hB.size (qfn (fun _ => 0))
  have hne : ∀ x, x < wc2.heap.size → x ≠ wc2.heap.size := fun x hx => Nat.ne_of_lt hx
  replace g := (g.alloc (.cells (qfn fun _ => 0) 22)).rowOther (hne _ g.lt) (qfn (fun _ => 0))
  replace sv := (sv.alloc (.cells (qfn fun _ => 0) 22)).rowOther (hne _ sv.lt) (qfn (fun _ => 0))
  replace c0 := (c0.alloc (.cells (qfn fun _ => 0) 22)).rowOther (hne _ c0.lt) (qfn (fun _ => 0))
  replace c1 := (c1.alloc (.cells (qfn fun _ => 0) 22)).rowOther (hne _ c1.lt) (qfn (fun _ => 0))
  clear hne
  generalize (wc2.alloc (.cells (qfn fun _ => 0) 22)).setRow wc2.heap.size (qfn (fun _ => 0)) = wc2x at *
  generalize wc2.heap.size = c2_b at *
  have out_c2 : gb < c2_b := gl
  clear gl Kc
  go_upto_region 12 with (first | (refine wpList_load_row rfl _ _ rfl _ rfl _ _ _ _ sv Try.underlying46 rfl (by kernel_rfl) ?_) | (go_at_call 23; with_reducible refine (Kd.out _ _ g).mono ?_; rintro e wc3 ⟨rfl, hb⟩; replace hB := hB.trans (hb.mono hB.size); replace g := g.below hb g.lt; replace sv := sv.below hb sv.lt; replace c0 := c0.below hb c0.lt; replace c1 := c1.below hb c1.lt; replace c2 := c2.below hb c2.lt; clear hb) | (rw [zero_spd]; refine wpList_store_row rfl _ _ _ rfl _ rfl _ rfl _ _ (blk.new _ _ _) (by first | kernel_rfl | (rw [qfn_size]; kernel_rfl)) (by first | rfl | simp only [qfn_size]) (by first | exact qfn_one _ | rfl) ?_))
  have gl := g.lt
  have c3 := (blk.new wc3 (qfn fun _ => 0) 22).row (qfn (fun _ => 0))
  replace hB := Below.setRow (hB.alloc hB.size (.cells (qfn fun _ => 0) 22)) (g := wc3.heap.size) hB.size (qfn (fun _ => 0))
  have hne : ∀ x, x < wc3.heap.size → x ≠ wc3.heap.size := fun x hx => Nat.ne_of_lt hx
  replace g := (g.alloc (.cells (qfn fun _ => 0) 22)).rowOther (hne _ g.lt) (qfn (fun _ => 0))
  replace sv := (sv.alloc (.cells (qfn fun _ => 0) 22)).rowOther (hne _ sv.lt) (qfn (fun _ => 0))
  replace c0 := (c0.alloc (.cells (qfn fun _ => 0) 22)).rowOther (hne _ c0.lt) (qfn (fun _ => 0))
  replace c1 := (c1.alloc (.cells (qfn fun _ => 0) 22)).rowOther (hne _ c1.lt) (qfn (fun _ => 0))
  replace c2 := (c2.alloc (.cells (qfn fun _ => 0) 22)).rowOther (hne _ c2.lt) (qfn (fun _ => 0))
  clear hne
  generalize (wc3.alloc (.cells (qfn fun _ => 0) 22)).setRow wc3.heap.size (qfn (fun _ => 0)) = wc3x at *
  generalize wc3.heap.size = c3_b at *
  have out_c3 : gb < c3_b := gl
  clear gl Kd
  go_upto_region 13 with (first | (go_at_call 24; with_reducible refine (Ke.out _ _ g).mono ?_; rintro e wc4 ⟨rfl, hb⟩; replace hB := hB.trans (hb.mono hB.size); replace g := g.below hb g.lt; replace sv := sv.below hb sv.lt; replace c0 := c0.below hb c0.lt; replace c1 := c1.below hb c1.lt; replace c2 := c2.below hb c2.lt; replace c3 := c3.below hb c3.lt; clear hb) | (rw [zero_spd]; refine wpList_store_row rfl _ _ _ rfl _ rfl _ rfl _ _ (blk.new _ _ _) (by first | kernel_rfl | (rw [qfn_size]; kernel_rfl)) (by first | rfl | simp only [qfn_size]) (by first | exact qfn_one _ | rfl) ?_))
  have gl := g.lt
  have c4 := (blk.new wc4 (qfn fun _ => 0) 22).row (qfn (fun _ => 0))
  replace hB := Below.setRow (hB.alloc hB.size (.cells (qfn fun _ => 0) 22)) (g := wc4.heap.size) hB.size (qfn (fun _ => 0))
  have hne : ∀ x, x < wc4.heap.size → x ≠ wc4.heap.size := fun x hx => Nat.ne_of_lt hx
  replace g := (g.alloc (.cells (qfn fun _ => 0) 22)).rowOther (hne _ g.lt) (qfn (fun _ => 0))
  replace sv := (sv.alloc (.cells (qfn fun _ => 0) 22)).rowOther (hne _ sv.lt) (qfn (fun _ => 0))
  replace c0 := (c0.alloc (.cells (qfn fun _ => 0) 22)).rowOther (hne _ c0.lt) (qfn (fun _ => 0))
  replace c1 := (c1.alloc (.cells (qfn fun _ => 0) 22)).rowOther (hne _ c1.lt) (qfn (fun _ => 0))
  replace c2 := (c2.alloc (.cells (qfn fun _ => 0) 22)).rowOther (hne _ c2.lt) (qfn (fun _ => 0))
  replace c3 := (c3.alloc (.cells (qfn fun _ => 0) 22)).rowOther (hne _ c3.lt) (qfn (fun _ => 0))
  clear hne
  generalize (wc4.alloc (.cells (qfn fun _ => 0) 22)).setRow wc4.heap.size (qfn (fun _ => 0)) = wc4x at *
  generalize wc4.heap.size = c4_b at *
  have out_c4 : gb < c4_b := gl
  clear gl Ke
  go_upto_region 14 with (first | (go_at_call 24; with_reducible refine (Kf.out _ _ g).mono ?_; rintro e wc5 ⟨rfl, hb⟩; replace hB := hB.trans (hb.mono hB.size); replace g := g.below hb g.lt; replace sv := sv.below hb sv.lt; replace c0 := c0.below hb c0.lt; replace c1 := c1.below hb c1.lt; replace c2 := c2.below hb c2.lt; replace c3 := c3.below hb c3.lt; replace c4 := c4.below hb c4.lt; clear hb) | (rw [zero_spd]; refine wpList_store_row rfl _ _ _ rfl _ rfl _ rfl _ _ (blk.new _ _ _) (by first | kernel_rfl | (rw [qfn_size]; kernel_rfl)) (by first | rfl | simp only [qfn_size]) (by first | exact qfn_one _ | rfl) ?_))
  have gl := g.lt
  have c5 := (blk.new wc5 (qfn fun _ => 0) 22).row (qfn (fun _ => 0))
  replace hB := Below.setRow (hB.alloc hB.size (.cells (qfn fun _ => 0) 22)) (g := wc5.heap.size) hB.size (qfn (fun _ => 0))
  have hne : ∀ x, x < wc5.heap.size → x ≠ wc5.heap.size := fun x hx => Nat.ne_of_lt hx
  replace g := (g.alloc (.cells (qfn fun _ => 0) 22)).rowOther (hne _ g.lt) (qfn (fun _ => 0))
  replace sv := (sv.alloc (.cells (qfn fun _ => 0) 22)).rowOther (hne _ sv.lt) (qfn (fun _ => 0))
  replace c0 := (c0.alloc (.cells (qfn fun _ => 0) 22)).rowOther (hne _ c0.lt) (qfn (fun _ => 0))
  replace c1 := (c1.alloc (.cells (qfn fun _ => 0) 22)).rowOther (hne _ c1.lt) (qfn (fun _ => 0))
  replace c2 := (c2.alloc (.cells (qfn fun _ => 0) 22)).rowOther (hne _ c2.lt) (qfn (fun _ => 0))
  replace c3 := (c3.alloc (.cells (qfn fun _ => 0) 22)).rowOther (hne _ c3.lt) (qfn (fun _ => 0))
  replace c4 := (c4.alloc (.cells (qfn fun _ => 0) 22)).rowOther (hne _ c4.lt) (qfn (fun _ => 0))
  clear hne
  generalize (wc5.alloc (.cells (qfn fun _ => 0) 22)).setRow wc5.heap.size (qfn (fun _ => 0)) = wc5x at *
  generalize wc5.heap.size = c5_b at *
  have out_c5 : gb < c5_b := gl
  clear gl Kf
  go_wp2_with (first | (go_at_call 21; with_reducible refine (CO.out _ _ g).mono ?_; rintro e wcd ⟨rfl, hb⟩; replace hB := hB.trans (hb.mono hB.size); clear hb) | (go_at_call 19; with_reducible refine (AW.out _).mono ?_; rintro e we ⟨rfl, hb⟩; replace hB := hB.trans (hb.mono hB.size); clear hb))
  go_ret
  exact ⟨rfl, hB⟩
end Go.Proofs.Ytjnocbjngojigaa
