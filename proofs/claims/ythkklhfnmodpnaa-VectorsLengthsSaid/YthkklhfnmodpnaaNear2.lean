/-
  The nearest integer by the specification's own numbers (package perigeeref01), for dividends up to 2^127 times the divisor.
-/
import Derived.Test.YthkklhfnmodpnaaNear
set_option linter.unusedSimpArgs false
set_option linter.unusedVariables false
namespace Go.Proofs.Ythkklhfnmodpnaa
open Go.RowKit PM Dt
set_option maxRecDepth 100000 in
set_option maxHeartbeats 4000000 in
theorem nearest_neg2 (a c : Nat) (w : World) (ha : a < 65536 ^ 15) (hac : a < c * 170141183460469231731687303715884105728) (hc0 : 0 < c) (hc : c < 65536 ^ 7) :
    Calls Try.prog 115 #[.bool true, .agg (bigC a), .agg (bigC c)] w fun e w' => e = .returned (.tuple #[.int .i64 (fitV (nearest (sgn true a) c)), .int .i64 (fitE (nearest (sgn true a) c))]) ∧ Below w.heap.size w w' := by
  have HA := Lib.hid ha
  have HAC := Lib.hid hac
  have HC0 := Lib.hid hc0
  have HC := Lib.hid hc
  have HA17 := Lib.hid (show a + a < 65536 ^ 17 by omega)
  have HC17 := Lib.hid (show c < 65536 ^ 17 by omega)
  have HCC0 := Lib.hid (show 0 < c + c by omega)
  have HCC17 := Lib.hid (show c + c < 65536 ^ 17 by omega)
  have HCC8 := Lib.hid (show c + c < 65536 ^ 8 by omega)
  clear ha hac hc0 hc
  go_enter Try.func115, Try.ntmps115
  go_upto_region 1 with (fail)
  have p4 : blk ((w.alloc (.cells (bigC a) 76)).alloc (.cells (bigC c) 76)) w.heap.size (bigC a) 76 := (blk.new _ _ _).alloc _
  have p5 : blk ((w.alloc (.cells (bigC a) 76)).alloc (.cells (bigC c) 76)) (w.heap.size + 1) (bigC c) 76 := blk.new' (by simp)
  have hB : Below w.heap.size w ((w.alloc (.cells (bigC a) 76)).alloc (.cells (bigC c) 76)) := by go_grown
  generalize (w.alloc (.cells (bigC a) 76)).alloc (.cells (bigC c) 76) = w0 at *
  go_upto_region 2 with (first | (refine wpList_load_row rfl _ _ rfl _ rfl _ _ _ _ p4 Try.underlying76 rfl (by rw [bigC_size]; kernel_rfl) ?_) | (go_at_call 110; refine (add_any a a _).mono ?_; rintro e w1 ⟨rfl, hb⟩; replace p4 := p4.below hb p4.lt; replace p5 := p5.below hb p5.lt; replace hB := More.trans hB hb; clear hb) | (refine wpList_store_row rfl _ _ _ rfl _ rfl _ rfl _ _ (blk.new _ _ _) (by rw [bigC_size]; kernel_rfl) (by rw [bigC_size]; rfl) (fnC_one _) ?_))
  rw [World.setRow_alloc_new]
  have p8 := blk.new w1 (bigC (a + a)) 76
  have p8_p4 := p4.lt
  have p8_p5 := p5.lt
  replace p4 := p4.alloc (.cells (bigC (a + a)) 76)
  replace p5 := p5.alloc (.cells (bigC (a + a)) 76)
  replace hB := hB.alloc hB.size (.cells (bigC (a + a)) 76)
  simp only [Act.put, List.setIfInBounds_toArray, List.set_cons_zero, List.set_cons_succ]
  generalize w1.heap.size = b8 at *
  generalize w1.alloc (.cells (bigC (a + a)) 76) = w2 at *
  by_cases hlt : c < a + a
  · have hd : decide (c < a + a) = true := decide_eq_true hlt
    have HLT := Lib.hid hlt
    clear hlt
    go_upto_region 5 with (first | (refine wpList_load_row rfl _ _ rfl _ rfl _ _ _ _ p5 Try.underlying76 rfl (by rw [bigC_size]; kernel_rfl) ?_) | (refine wpList_load_row rfl _ _ rfl _ rfl _ _ _ _ p8 Try.underlying76 rfl (by rw [bigC_size]; kernel_rfl) ?_) | (go_at_call 117; refine (less_any c (a + a) _ HC17.out HA17.out).mono ?_; rintro e w1 ⟨rfl, hb⟩; replace p4 := p4.below hb p4.lt; replace p5 := p5.below hb p5.lt; replace p8 := p8.below hb p8.lt; replace hB := More.trans hB hb; clear hb))
    obtain ⟨q, hq⟩ : ∃ q, q = (a + a - c) / (c + c) := ⟨_, rfl⟩
    have hq8 : q < 65536 ^ 8 := by
      rw [hq]; exact (Nat.div_lt_iff_lt_mul (by have := HC0.out; omega)).2 (by have := HAC.out; omega)
    have HQ := Lib.hid hq
    have HQ8 := Lib.hid hq8
    clear hq hq8
    refine wp_region_X 8 (by kernel_rfl) (by kernel_rfl) ?_
    refine wpX_take 0 (.agg (bigC (a + a))) rfl rfl (by kernel_rfl) (fun w1 h1 => detR_row _ _ rfl _ rfl _ _ _ (p8.drew.below h1 p8.lt) Try.underlying76 rfl (by rw [bigC_size]; kernel_rfl) rfl) ?_
    simp only [Act.put, List.setIfInBounds_toArray, List.set_cons_zero, List.set_cons_succ]
    refine wpX_take 1 (.agg (bigC (c))) rfl rfl (by kernel_rfl) (fun w1 h1 => detR_row _ _ rfl _ rfl _ _ _ (p5.drew.below h1 p5.lt) Try.underlying76 rfl (by rw [bigC_size]; kernel_rfl) rfl) ?_
    simp only [Act.put, List.setIfInBounds_toArray, List.set_cons_zero, List.set_cons_succ]
    refine wpX_take 2 (.agg (bigC (a + a - c))) rfl rfl (by kernel_rfl) (fun w1 h1 => ?_) ?_
    · go_simp
      refine (sub_any (a + a) c _ HA17.out (Nat.le_of_lt HLT.out)).mono ?_
      rintro e w2 ⟨rfl, h2⟩
      exact ⟨rfl, h2⟩
    simp only [Act.put, List.setIfInBounds_toArray, List.set_cons_zero, List.set_cons_succ]
    refine wpX_take 3 (.agg (bigC (c))) rfl rfl (by kernel_rfl) (fun w1 h1 => detR_row _ _ rfl _ rfl _ _ _ (p5.drew.below h1 p5.lt) Try.underlying76 rfl (by rw [bigC_size]; kernel_rfl) rfl) ?_
    simp only [Act.put, List.setIfInBounds_toArray, List.set_cons_zero, List.set_cons_succ]
    refine wpX_take 4 (.agg (bigC (c))) rfl rfl (by kernel_rfl) (fun w1 h1 => detR_row _ _ rfl _ rfl _ _ _ (p5.drew.below h1 p5.lt) Try.underlying76 rfl (by rw [bigC_size]; kernel_rfl) rfl) ?_
    simp only [Act.put, List.setIfInBounds_toArray, List.set_cons_zero, List.set_cons_succ]
    refine wpX_take 5 (.agg (bigC (c + c))) rfl rfl (by kernel_rfl) (fun w1 h1 => ?_) ?_
    · go_simp
      refine (add_any c c _).mono ?_
      rintro e w2 ⟨rfl, h2⟩
      exact ⟨rfl, h2⟩
    simp only [Act.put, List.setIfInBounds_toArray, List.set_cons_zero, List.set_cons_succ]
    refine wpX_take 6 (.agg (bigC q)) rfl rfl (by kernel_rfl) (fun w1 h1 => ?_) ?_
    · go_simp
      refine (HQ.out ▸ quotient_any (a + a - c) (c + c) _ (by have := HA.out; omega) HCC0.out HCC17.out).mono ?_
      rintro e w2 ⟨rfl, h2⟩
      exact ⟨rfl, h2⟩
    simp only [Act.put, List.setIfInBounds_toArray, List.set_cons_zero, List.set_cons_succ]
    refine wpX_one 7 rfl rfl (by omega) (by kernel_rfl) (fun w3 h3 K hK => ?_)
    go_simp
    rw [zero_eq_big]
    refine hK _ _ ((Below.refl _ _).alloc (Nat.le_refl _) _) ?_
    clear hK K
    have p9 := blk.new w3 (bigC 0) 76
    have d4 := (p4.drew.below h3 p4.lt).lt
    have d5 := (p5.drew.below h3 p5.lt).lt
    have d8 := (p8.drew.below h3 p8.lt).lt
    replace p4 := (p4.drew.below h3 p4.lt).alloc (.cells (bigC 0) 76)
    replace p5 := (p5.drew.below h3 p5.lt).alloc (.cells (bigC 0) 76)
    replace p8 := (p8.drew.below h3 p8.lt).alloc (.cells (bigC 0) 76)
    replace hB := (More.trans hB.drew h3).alloc (More.trans hB.drew h3).size (.cells (bigC 0) 76)
    clear h3
    generalize w3.heap.size = b9 at *
    generalize w3.alloc (.cells (bigC 0) 76) = w4 at *
    refine wpX_tail (by kernel_rfl) (fun w5 hb => ?_)
    simp only [List.drop_succ_cons, List.drop_zero]
    replace p4 := p4.below hb p4.lt; replace p5 := p5.below hb p5.lt; replace p8 := p8.below hb p8.lt; replace p9 := p9.below hb p9.lt; replace hB := More.trans hB hb; clear hb
    go_upto_region 6 with (first | (refine wpList_store_row rfl _ _ _ rfl _ rfl _ rfl _ _ p9 (by rw [bigC_size]; kernel_rfl) (by rw [bigC_size, bigC_size]) (fnC_one _) ?_))
    replace p4 := p4.rowOther (g := b9) (by omega) (bigC q)
    replace p5 := p5.rowOther (g := b9) (by omega) (bigC q)
    replace p8 := p8.rowOther (g := b9) (by omega) (bigC q)
    replace p9 := p9.row (bigC q)
    replace hB := Below.setRow hB (g := b9) (by omega) (bigC q)
    simp only [Act.put, List.setIfInBounds_toArray, List.set_cons_zero, List.set_cons_succ]
    generalize w5.setRow b9 (bigC q) = w6 at *
    have HP := Lib.hid (show q * (c + c) < 65536 ^ 17 by
      have h1 := HQ8.out; have h2 := HCC8.out
      have := Nat.mul_lt_mul'' h1 h2; omega)
    have HE := Lib.hid (fun wx => run_equalIn_big (q * (c + c)) (a + a - c) HP.out (by have := HA17.out; omega) wx)
    refine wp_region_X 8 (by kernel_rfl) (by kernel_rfl) ?_
    refine wpX_take 0 (.agg (bigC (q))) rfl rfl (by kernel_rfl) (fun w1 h1 => detR_row _ _ rfl _ rfl _ _ _ (p9.drew.below h1 p9.lt) Try.underlying76 rfl (by rw [bigC_size]; kernel_rfl) rfl) ?_
    simp only [Act.put, List.setIfInBounds_toArray, List.set_cons_zero, List.set_cons_succ]
    refine wpX_take 1 (.agg (bigC (c))) rfl rfl (by kernel_rfl) (fun w1 h1 => detR_row _ _ rfl _ rfl _ _ _ (p5.drew.below h1 p5.lt) Try.underlying76 rfl (by rw [bigC_size]; kernel_rfl) rfl) ?_
    simp only [Act.put, List.setIfInBounds_toArray, List.set_cons_zero, List.set_cons_succ]
    refine wpX_take 2 (.agg (bigC (c))) rfl rfl (by kernel_rfl) (fun w1 h1 => detR_row _ _ rfl _ rfl _ _ _ (p5.drew.below h1 p5.lt) Try.underlying76 rfl (by rw [bigC_size]; kernel_rfl) rfl) ?_
    simp only [Act.put, List.setIfInBounds_toArray, List.set_cons_zero, List.set_cons_succ]
    refine wpX_take 3 (.agg (bigC (c + c))) rfl rfl (by kernel_rfl) (fun w1 h1 => ?_) ?_
    · go_simp
      refine (add_any c c _).mono ?_
      rintro e w2 ⟨rfl, h2⟩
      exact ⟨rfl, h2⟩
    simp only [Act.put, List.setIfInBounds_toArray, List.set_cons_zero, List.set_cons_succ]
    refine wpX_take 4 (.agg (bigC (q * (c + c)))) rfl rfl (by kernel_rfl) (fun w1 h1 => ?_) ?_
    · go_simp
      refine (times_any q (c + c) _ HQ8.out HCC8.out).mono ?_
      rintro e w2 ⟨rfl, h2⟩
      exact ⟨rfl, h2⟩
    simp only [Act.put, List.setIfInBounds_toArray, List.set_cons_zero, List.set_cons_succ]
    refine wpX_take 5 (.agg (bigC (a + a))) rfl rfl (by kernel_rfl) (fun w1 h1 => detR_row _ _ rfl _ rfl _ _ _ (p8.drew.below h1 p8.lt) Try.underlying76 rfl (by rw [bigC_size]; kernel_rfl) rfl) ?_
    simp only [Act.put, List.setIfInBounds_toArray, List.set_cons_zero, List.set_cons_succ]
    refine wpX_take 6 (.agg (bigC (c))) rfl rfl (by kernel_rfl) (fun w1 h1 => detR_row _ _ rfl _ rfl _ _ _ (p5.drew.below h1 p5.lt) Try.underlying76 rfl (by rw [bigC_size]; kernel_rfl) rfl) ?_
    simp only [Act.put, List.setIfInBounds_toArray, List.set_cons_zero, List.set_cons_succ]
    refine wpX_take 7 (.agg (bigC (a + a - c))) rfl rfl (by kernel_rfl) (fun w1 h1 => ?_) ?_
    · go_simp
      refine (sub_any (a + a) c _ HA17.out (Nat.le_of_lt HLT.out)).mono ?_
      rintro e w2 ⟨rfl, h2⟩
      exact ⟨rfl, h2⟩
    simp only [Act.put, List.setIfInBounds_toArray, List.set_cons_zero, List.set_cons_succ]
    refine wpX_tail (by kernel_rfl) (fun wt hb => ?_)
    simp only [List.drop_succ_cons, List.drop_zero]
    replace p4 := p4.drew.below hb p4.lt
    replace p5 := p5.drew.below hb p5.lt
    replace p8 := p8.drew.below hb p8.lt
    replace p9 := p9.drew.below hb p9.lt
    replace hB := More.trans hB.drew hb
    clear hb
    by_cases hz : q * (c + c) = a + a - c
    · have hq0 : ∀ wx, (Op.equalIn 10000 76 (.agg (bigC (q * (c + c)))) (.agg (bigC (a + a - c)))).run Try.prog wx = .ok true wx := by
        intro wx; rw [HE.out wx]; congr 1; simp; exact hz
      have HZ := Lib.hid hz
      clear hz HE
      go_wp2_with (first | (refine wpList_load_row rfl _ _ rfl _ rfl _ _ _ _ p9 Try.underlying76 rfl (by rw [bigC_size]; kernel_rfl) ?_) | (go_at_call 96; refine (rsigned_any q true _ (Nat.lt_trans HQ8.out (by omega))).mono ?_; rintro e w1 ⟨rfl, hb⟩; replace p9 := p9.below hb p9.lt; replace hB := More.trans hB hb; clear hb))
      go_ret2
      have e1 := HQ.out
      have e2 := HZ.out
      have e3 : nearest (sgn true a) c = sgn true q := by rw [e1] at e2 ⊢; exact nearest_n1 HC0.out HLT.out e2
      exact ⟨ret2I (by rw [e3]) (by rw [e3]), hB⟩
    · have hq0 : ∀ wx, (Op.equalIn 10000 76 (.agg (bigC (q * (c + c)))) (.agg (bigC (a + a - c)))).run Try.prog wx = .ok false wx := by
        intro wx; rw [HE.out wx]; congr 1; simp; exact hz
      have HZ := Lib.hid hz
      clear hz HE
      go_upto_region 7 with (fail)
      clear hq0
      refine wp_region_X 3 (by kernel_rfl) (by kernel_rfl) ?_
      refine wpX_take 0 (.agg (bigC (q))) rfl rfl (by kernel_rfl) (fun w1 h1 => detR_row _ _ rfl _ rfl _ _ _ (p9.drew.below h1 p9.lt) Try.underlying76 rfl (by rw [bigC_size]; kernel_rfl) rfl) ?_
      simp only [Act.put, List.setIfInBounds_toArray, List.set_cons_zero, List.set_cons_succ]
      refine wpX_take 1 (.agg (bigC 1)) rfl rfl (by kernel_rfl) (fun w1 h1 => ?_) ?_
      · go_simp
        refine (abs_any 1 _ (by omega) (by omega)).mono ?_
        rintro e w2 ⟨rfl, h2⟩
        exact ⟨rfl, h2⟩
      simp only [Act.put, List.setIfInBounds_toArray, List.set_cons_zero, List.set_cons_succ]
      refine wpX_take 2 (.agg (bigC (q + 1))) rfl rfl (by kernel_rfl) (fun w1 h1 => ?_) ?_
      · go_simp
        refine (add_any q 1 _).mono ?_
        rintro e w2 ⟨rfl, h2⟩
        exact ⟨rfl, h2⟩
      simp only [Act.put, List.setIfInBounds_toArray, List.set_cons_zero, List.set_cons_succ]
      refine wpX_tail (by kernel_rfl) (fun wt hb => ?_)
      simp only [List.drop_succ_cons, List.drop_zero]
      replace p4 := p4.drew.below hb p4.lt
      replace p5 := p5.drew.below hb p5.lt
      replace p8 := p8.drew.below hb p8.lt
      replace p9 := p9.drew.below hb p9.lt
      replace hB := More.trans hB.drew hb
      clear hb
      go_upto_region 8 with (first | (refine wpList_store_row rfl _ _ _ rfl _ rfl _ rfl _ _ p9 (by rw [bigC_size]; kernel_rfl) (by rw [bigC_size, bigC_size]) (fnC_one _) ?_))
      replace p9 := p9.row (bigC (q + 1))
      replace hB := Below.setRow hB (g := b9) (by omega) (bigC (q + 1))
      simp only [Act.put, List.setIfInBounds_toArray, List.set_cons_zero, List.set_cons_succ]
      generalize wt.setRow b9 (bigC (q + 1)) = w7 at *
      go_wp2_with (first | (refine wpList_load_row rfl _ _ rfl _ rfl _ _ _ _ p9 Try.underlying76 rfl (by rw [bigC_size]; kernel_rfl) ?_) | (go_at_call 96; refine (rsigned_any (q + 1) true _ (by have := HQ8.out; omega)).mono ?_; rintro e w1 ⟨rfl, hb⟩; replace p9 := p9.below hb p9.lt; replace hB := More.trans hB hb; clear hb))
      go_ret2
      have e1 := HQ.out
      have e2 := HZ.out
      have e3 : nearest (sgn true a) c = sgn true (q + 1) := by rw [e1] at e2 ⊢; exact nearest_n2 HC0.out HLT.out e2
      exact ⟨ret2I (by rw [e3]) (by rw [e3]), hB⟩
  · have hd : decide (c < a + a) = false := decide_eq_false hlt
    have HLT := Lib.hid hlt
    clear hlt
    go_wp2_with (first | (refine wpList_load_row rfl _ _ rfl _ rfl _ _ _ _ p5 Try.underlying76 rfl (by rw [bigC_size]; kernel_rfl) ?_) | (refine wpList_load_row rfl _ _ rfl _ rfl _ _ _ _ p8 Try.underlying76 rfl (by rw [bigC_size]; kernel_rfl) ?_) | (go_at_call 117; refine (less_any c (a + a) _ HC17.out HA17.out).mono ?_; rintro e w1 ⟨rfl, hb⟩; replace p4 := p4.below hb p4.lt; replace p5 := p5.below hb p5.lt; replace p8 := p8.below hb p8.lt; replace hB := More.trans hB hb; clear hb))
    go_ret2
    have e3 := nearest_n0 HLT.out HC0.out
    exact ⟨ret2I (by rw [e3]; rfl) (by rw [e3]; rfl), hB⟩
set_option maxRecDepth 100000 in
set_option maxHeartbeats 4000000 in
theorem nearest_pos2 (a c : Nat) (w : World) (ha : a < 65536 ^ 15) (hac : a < c * 170141183460469231731687303715884105728) (hc0 : 0 < c) (hc : c < 65536 ^ 7) :
    Calls Try.prog 115 #[.bool false, .agg (bigC a), .agg (bigC c)] w fun e w' => e = .returned (.tuple #[.int .i64 (fitV (nearest (sgn false a) c)), .int .i64 (fitE (nearest (sgn false a) c))]) ∧ Below w.heap.size w w' := by
  have HA := Lib.hid ha
  have HAC := Lib.hid hac
  have HC0 := Lib.hid hc0
  have HC := Lib.hid hc
  have HA17 := Lib.hid (show a + a < 65536 ^ 17 by omega)
  have HC17 := Lib.hid (show c < 65536 ^ 17 by omega)
  have HCC0 := Lib.hid (show 0 < c + c by omega)
  have HCC17 := Lib.hid (show c + c < 65536 ^ 17 by omega)
  have HCC8 := Lib.hid (show c + c < 65536 ^ 8 by omega)
  clear ha hac hc0 hc
  go_enter Try.func115, Try.ntmps115
  go_upto_region 1 with (fail)
  have p4 : blk ((w.alloc (.cells (bigC a) 76)).alloc (.cells (bigC c) 76)) w.heap.size (bigC a) 76 := (blk.new _ _ _).alloc _
  have p5 : blk ((w.alloc (.cells (bigC a) 76)).alloc (.cells (bigC c) 76)) (w.heap.size + 1) (bigC c) 76 := blk.new' (by simp)
  have hB : Below w.heap.size w ((w.alloc (.cells (bigC a) 76)).alloc (.cells (bigC c) 76)) := by go_grown
  generalize (w.alloc (.cells (bigC a) 76)).alloc (.cells (bigC c) 76) = w0 at *
  go_upto_region 2 with (first | (refine wpList_load_row rfl _ _ rfl _ rfl _ _ _ _ p4 Try.underlying76 rfl (by rw [bigC_size]; kernel_rfl) ?_) | (go_at_call 110; refine (add_any a a _).mono ?_; rintro e w1 ⟨rfl, hb⟩; replace p4 := p4.below hb p4.lt; replace p5 := p5.below hb p5.lt; replace hB := More.trans hB hb; clear hb) | (refine wpList_store_row rfl _ _ _ rfl _ rfl _ rfl _ _ (blk.new _ _ _) (by rw [bigC_size]; kernel_rfl) (by rw [bigC_size]; rfl) (fnC_one _) ?_))
  rw [World.setRow_alloc_new]
  have p8 := blk.new w1 (bigC (a + a)) 76
  have p8_p4 := p4.lt
  have p8_p5 := p5.lt
  replace p4 := p4.alloc (.cells (bigC (a + a)) 76)
  replace p5 := p5.alloc (.cells (bigC (a + a)) 76)
  replace hB := hB.alloc hB.size (.cells (bigC (a + a)) 76)
  simp only [Act.put, List.setIfInBounds_toArray, List.set_cons_zero, List.set_cons_succ]
  generalize w1.heap.size = b8 at *
  generalize w1.alloc (.cells (bigC (a + a)) 76) = w2 at *
  go_upto_region 9 with (fail)
  obtain ⟨q, hq⟩ : ∃ q, q = (a + a + c) / (c + c) := ⟨_, rfl⟩
  have hq17 : q < 65536 ^ 17 := by
    rw [hq]; exact (Nat.div_lt_iff_lt_mul (by have := HC0.out; omega)).2 (by have := HAC.out; have := HC0.out; omega)
  have HQ := Lib.hid hq
  have HQ17 := Lib.hid hq17
  clear hq hq17
  refine wp_region_X 10 (by kernel_rfl) (by kernel_rfl) ?_
  refine wpX_take 0 (.agg (bigC (a + a))) rfl rfl (by kernel_rfl) (fun w1 h1 => detR_row _ _ rfl _ rfl _ _ _ (p8.drew.below h1 p8.lt) Try.underlying76 rfl (by rw [bigC_size]; kernel_rfl) rfl) ?_
  simp only [Act.put, List.setIfInBounds_toArray, List.set_cons_zero, List.set_cons_succ]
  refine wpX_take 1 (.agg (bigC (c))) rfl rfl (by kernel_rfl) (fun w1 h1 => detR_row _ _ rfl _ rfl _ _ _ (p5.drew.below h1 p5.lt) Try.underlying76 rfl (by rw [bigC_size]; kernel_rfl) rfl) ?_
  simp only [Act.put, List.setIfInBounds_toArray, List.set_cons_zero, List.set_cons_succ]
  refine wpX_take 2 (.agg (bigC (a + a + c))) rfl rfl (by kernel_rfl) (fun w1 h1 => ?_) ?_
  · go_simp
    refine (add_any (a + a) c _).mono ?_
    rintro e w2 ⟨rfl, h2⟩
    exact ⟨rfl, h2⟩
  simp only [Act.put, List.setIfInBounds_toArray, List.set_cons_zero, List.set_cons_succ]
  refine wpX_take 3 (.agg (bigC (c))) rfl rfl (by kernel_rfl) (fun w1 h1 => detR_row _ _ rfl _ rfl _ _ _ (p5.drew.below h1 p5.lt) Try.underlying76 rfl (by rw [bigC_size]; kernel_rfl) rfl) ?_
  simp only [Act.put, List.setIfInBounds_toArray, List.set_cons_zero, List.set_cons_succ]
  refine wpX_take 4 (.agg (bigC (c))) rfl rfl (by kernel_rfl) (fun w1 h1 => detR_row _ _ rfl _ rfl _ _ _ (p5.drew.below h1 p5.lt) Try.underlying76 rfl (by rw [bigC_size]; kernel_rfl) rfl) ?_
  simp only [Act.put, List.setIfInBounds_toArray, List.set_cons_zero, List.set_cons_succ]
  refine wpX_take 5 (.agg (bigC (c + c))) rfl rfl (by kernel_rfl) (fun w1 h1 => ?_) ?_
  · go_simp
    refine (add_any c c _).mono ?_
    rintro e w2 ⟨rfl, h2⟩
    exact ⟨rfl, h2⟩
  simp only [Act.put, List.setIfInBounds_toArray, List.set_cons_zero, List.set_cons_succ]
  refine wpX_take 6 (.agg (bigC q)) rfl rfl (by kernel_rfl) (fun w1 h1 => ?_) ?_
  · go_simp
    refine (HQ.out ▸ quotient_any (a + a + c) (c + c) _ (by have := HA.out; have := HC.out; omega) HCC0.out HCC17.out).mono ?_
    rintro e w2 ⟨rfl, h2⟩
    exact ⟨rfl, h2⟩
  simp only [Act.put, List.setIfInBounds_toArray, List.set_cons_zero, List.set_cons_succ]
  refine wpX_take 7 (.tuple #[.int .i64 (fitV (sgn false q)), .int .i64 (fitE (sgn false q))]) rfl rfl (by kernel_rfl) (fun w1 h1 => ?_) ?_
  · go_simp
    refine (rsigned_any q false _ HQ17.out).mono ?_
    rintro e w2 ⟨rfl, h2⟩
    exact ⟨rfl, h2⟩
  simp only [Act.put, List.setIfInBounds_toArray, List.set_cons_zero, List.set_cons_succ]
  refine wpX_take 8 (.int .i64 (fitV (sgn false q))) rfl rfl (by kernel_rfl) (fun w1 h1 => ?_) ?_
  · go_simp
    exact ⟨rfl, Below.refl _ _⟩
  simp only [Act.put, List.setIfInBounds_toArray, List.set_cons_zero, List.set_cons_succ]
  refine wpX_take 9 (.int .i64 (fitE (sgn false q))) rfl rfl (by kernel_rfl) (fun w1 h1 => ?_) ?_
  · go_simp
    exact ⟨rfl, Below.refl _ _⟩
  simp only [Act.put, List.setIfInBounds_toArray, List.set_cons_zero, List.set_cons_succ]
  refine wpX_tail (by kernel_rfl) (fun wt hb => ?_)
  simp only [List.drop_succ_cons, List.drop_zero]
  replace p4 := p4.drew.below hb p4.lt
  replace p5 := p5.drew.below hb p5.lt
  replace p8 := p8.drew.below hb p8.lt
  replace hB := More.trans hB.drew hb
  clear hb
  go_wp2_with (fail)
  go_ret2
  have e1 := HQ.out
  have e3 : nearest (sgn false a) c = sgn false q := by rw [e1]; exact nearest_p HC0.out
  exact ⟨ret2I (by rw [e3]) (by rw [e3]), hB⟩
theorem nearest_any2 (neg : Bool) (a c : Nat) (w : World) (ha : a < 65536 ^ 15) (hac : a < c * 170141183460469231731687303715884105728) (hc0 : 0 < c) (hc : c < 65536 ^ 7) :
    Calls Try.prog 115 #[.bool neg, .agg (bigC a), .agg (bigC c)] w fun e w' => e = .returned (.tuple #[.int .i64 (fitV (nearest (sgn neg a) c)), .int .i64 (fitE (nearest (sgn neg a) c))]) ∧ Below w.heap.size w w' := by
  cases neg
  · exact nearest_pos2 a c w ha hac hc0 hc
  · exact nearest_neg2 a c w ha hac hc0 hc
end Go.Proofs.Ythkklhfnmodpnaa
