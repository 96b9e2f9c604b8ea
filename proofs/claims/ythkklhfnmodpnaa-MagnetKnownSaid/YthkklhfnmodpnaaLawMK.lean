/-
  The examples of the document on magnets (closed).
-/
import Derived.Test.YthkklhfnmodpnaaLawM
set_option linter.unusedSimpArgs false
set_option linter.unusedVariables false
namespace Go.Proofs.Ythkklhfnmodpnaa
open Go.RowKit PM Dt
theorem nrm_1 : normV (of3 1 0 0) = 1 ∧ normE (of3 1 0 0) = 0 := by
  have hs : sqs [of3 1 0 0 0, of3 1 0 0 1, of3 1 0 0 2] = 1 := by rw [sqs_cons, sqs_cons, sqs_cons, sqs_nil]; rfl
  have h2 : hypQ [of3 1 0 0 0, of3 1 0 0 1, of3 1 0 0 2] = 1 := by
    unfold hypQ; rw [hs, show isqrt 1 = 1 from isqrt_eq (by decide) (by decide) (by decide)]; rfl
  have h1 : okV (of3 1 0 0) = true := by decide +kernel
  unfold normV normE
  rw [h1, if_pos rfl, if_pos rfl, h2]
  exact ⟨rfl, rfl⟩
theorem kn0 : vfn (atF (of3 0 0 1073741824) (of3 0 0 1073741824)) = vfn (of3 0 0 2147483648) ∧ atE (of3 0 0 1073741824) (of3 0 0 1073741824) = 0 := by
  have n1 := nrm_one (f := (of3 0 0 1073741824)) (by decide +kernel) (by decide)
  have n2 := nrm_one (f := (of3 0 0 1073741824)) (by decide +kernel) (by decide)
  have hk : atOk (of3 0 0 1073741824) (of3 0 0 1073741824) = true := by
    unfold atOk
    rw [n1.1, n1.2]
    try rw [n2.1, n2.2]
    decide
  unfold atF atE
  rw [hk]
  refine ⟨?_, rfl⟩
  apply vfn_congr
  intro i hi
  have : i = 0 ∨ i = 1 ∨ i = 2 := by omega
  rcases this with rfl | rfl | rfl <;> decide +kernel
theorem kn1 : vfn (atF (of3 0 0 1073741824) (of3 0 0 (-1073741824))) = vfn (of3 0 0 (-2147483648)) ∧ atE (of3 0 0 1073741824) (of3 0 0 (-1073741824)) = 0 := by
  have n1 := nrm_one (f := (of3 0 0 1073741824)) (by decide +kernel) (by decide)
  have n2 := nrm_one (f := (of3 0 0 (-1073741824))) (by decide +kernel) (by decide)
  have hk : atOk (of3 0 0 1073741824) (of3 0 0 (-1073741824)) = true := by
    unfold atOk
    rw [n1.1, n1.2]
    try rw [n2.1, n2.2]
    decide
  unfold atF atE
  rw [hk]
  refine ⟨?_, rfl⟩
  apply vfn_congr
  intro i hi
  have : i = 0 ∨ i = 1 ∨ i = 2 := by omega
  rcases this with rfl | rfl | rfl <;> decide +kernel
theorem kn2 : vfn (torqF (of3 5 0 0) (of3 0 0 1073741824)) = vfn (of3 0 (-5) 0) ∧ torqE (of3 5 0 0) (of3 0 0 1073741824) = 0 := by
  have hk : torqOk (of3 5 0 0) (of3 0 0 1073741824) = true := by decide +kernel
  have hE : vcrossE (of3 5 0 0) (of3 0 0 1073741824) = 0 := by decide +kernel
  unfold torqF torqE
  rw [hk, hE]
  refine ⟨?_, rfl⟩
  apply vfn_congr
  intro i hi
  have : i = 0 ∨ i = 1 ∨ i = 2 := by omega
  rcases this with rfl | rfl | rfl <;> decide +kernel
theorem kn3 : vfn (torqF (of3 65537 0 0) (of3 0 0 1073741824)) = vfn (of3 0 0 0) ∧ torqE (of3 65537 0 0) (of3 0 0 1073741824) = 2 := by
  have hk : torqOk (of3 65537 0 0) (of3 0 0 1073741824) = false := by decide +kernel
  unfold torqF torqE
  rw [hk]
  refine ⟨?_, rfl⟩
  apply vfn_congr
  intro i hi
  have : i = 0 ∨ i = 1 ∨ i = 2 := by omega
  rcases this with rfl | rfl | rfl <;> decide +kernel
theorem kn4 : vfn (unlF (of3 1048576 0 0) (of3 0 0 1073741824)) = vfn (of3 0 (-65536) 0) ∧ unlE (of3 1048576 0 0) (of3 0 0 1073741824) = 0 := by
  have hk : unlOk (of3 1048576 0 0) (of3 0 0 1073741824) = true := by decide +kernel
  unfold unlF unlE
  rw [hk]
  refine ⟨?_, rfl⟩
  apply vfn_congr
  intro i hi
  have : i = 0 ∨ i = 1 ∨ i = 2 := by omega
  rcases this with rfl | rfl | rfl <;> decide +kernel
theorem kn5 : vfn (unlF (of3 2097153 0 0) (of3 0 0 1073741824)) = vfn (of3 0 0 0) ∧ unlE (of3 2097153 0 0) (of3 0 0 1073741824) = 2 := by
  have hk : unlOk (of3 2097153 0 0) (of3 0 0 1073741824) = false := by decide +kernel
  unfold unlF unlE
  rw [hk]
  refine ⟨?_, rfl⟩
  apply vfn_congr
  intro i hi
  have : i = 0 ∨ i = 1 ∨ i = 2 := by omega
  rcases this with rfl | rfl | rfl <;> decide +kernel
theorem kn6 : vfn (atF (of3 1 0 0) (of3 0 0 1073741824)) = vfn (of3 0 0 0) ∧ atE (of3 1 0 0) (of3 0 0 1073741824) = 2 := by
  have n1 := nrm_1
  have n2 := nrm_one (f := (of3 0 0 1073741824)) (by decide +kernel) (by decide)
  have hk : atOk (of3 1 0 0) (of3 0 0 1073741824) = false := by
    unfold atOk
    rw [n1.1, n1.2]
    try rw [n2.1, n2.2]
    decide
  unfold atF atE
  rw [hk]
  refine ⟨?_, rfl⟩
  apply vfn_congr
  intro i hi
  have : i = 0 ∨ i = 1 ∨ i = 2 := by omega
  rcases this with rfl | rfl | rfl <;> decide +kernel
theorem kn7 : vfn (unlF (of3 0 0 0) (of3 4294967297 0 0)) = vfn (of3 0 0 0) ∧ unlE (of3 0 0 0) (of3 4294967297 0 0) = 2 := by
  have hk : unlOk (of3 0 0 0) (of3 4294967297 0 0) = false := by decide +kernel
  unfold unlF unlE
  rw [hk]
  refine ⟨?_, rfl⟩
  apply vfn_congr
  intro i hi
  have : i = 0 ∨ i = 1 ∨ i = 2 := by omega
  rcases this with rfl | rfl | rfl <;> decide +kernel
set_option maxRecDepth 100000 in
set_option maxHeartbeats 4000000 in
theorem mknown_any (w : World) : Calls Try.prog 12 #[] w fun e w' => e = .returned (.bool true) ∧ Below w.heap.size w w' := by
  have hI : ∀ a b c, I64 a → I64 b → I64 c → ∀ i, i < 3 → I64 (of3 a b c i) := fun a b c ha hb hc => of3_I ha hb hc
  have K0 := Lib.hid (fun w => at_any (of3 0 0 1073741824) (of3 0 0 1073741824) w (hI _ _ _ ⟨by decide, by decide⟩ ⟨by decide, by decide⟩ ⟨by decide, by decide⟩))
  rw [kn0.1, kn0.2] at K0
  have K1 := Lib.hid (fun w => at_any (of3 0 0 1073741824) (of3 0 0 (-1073741824)) w (hI _ _ _ ⟨by decide, by decide⟩ ⟨by decide, by decide⟩ ⟨by decide, by decide⟩))
  rw [kn1.1, kn1.2] at K1
  have K2 := Lib.hid (fun w => torq_any (of3 5 0 0) (of3 0 0 1073741824) w)
  rw [kn2.1, kn2.2] at K2
  have K3 := Lib.hid (fun w => torq_any (of3 65537 0 0) (of3 0 0 1073741824) w)
  rw [kn3.1, kn3.2] at K3
  have K4 := Lib.hid (fun w => unl_any (of3 1048576 0 0) (of3 0 0 1073741824) w)
  rw [kn4.1, kn4.2] at K4
  have K5 := Lib.hid (fun w => unl_any (of3 2097153 0 0) (of3 0 0 1073741824) w)
  rw [kn5.1, kn5.2] at K5
  have K6 := Lib.hid (fun w => at_any (of3 1 0 0) (of3 0 0 1073741824) w (hI _ _ _ ⟨by decide, by decide⟩ ⟨by decide, by decide⟩ ⟨by decide, by decide⟩))
  rw [kn6.1, kn6.2] at K6
  have K7 := Lib.hid (fun w => unl_any (of3 0 0 0) (of3 4294967297 0 0) w)
  rw [kn7.1, kn7.2] at K7
  have hq0 := vec_eq_self (of3 0 0 2147483648)
  have hq1 := vec_eq_self (of3 0 0 (-2147483648))
  have hq2 := vec_eq_self (of3 0 (-5) 0)
  have hq4 := vec_eq_self (of3 0 (-65536) 0)
  simp only [← of3_cells] at K0 K1 K2 K3 K4 K5 K6 K7 hq0 hq1 hq2 hq4
  clear hI
  go_enter Try.func12, Try.ntmps12
  have hB : Below w.heap.size w (w.alloc (.cells #[.int .i64 0, .int .i64 0, .int .i64 1073741824] 23)) := by go_grown
  have p := blk.new w #[.int .i64 0, .int .i64 0, .int .i64 1073741824] 23
  go_upto_region 2 with (fail)
  generalize w.alloc (.cells #[.int .i64 0, .int .i64 0, .int .i64 1073741824] 23) = w0 at *
  go_upto_region 3 with (first | (refine wpList_load_rowG ?hw _ _ rfl _ rfl _ _ _ _ p Try.underlying23 rfl ?hi ?_; (case hw => (first | rfl | (simp [Region.wanted, yielded]; done))); (case hi => kernel_rfl)) | (go_at_call 42; with_reducible refine (K0.out _).mono ?_; rintro e v0 ⟨rfl, hb⟩; replace hB := hB.trans (hb.mono hB.size); replace p := p.below hb p.lt; clear hb))
  have r0 := blk.new v0 #[.int .i64 0, .int .i64 0, .int .i64 2147483648] 23
  replace p := p.alloc (.cells #[.int .i64 0, .int .i64 0, .int .i64 2147483648] 23)
  replace hB := hB.alloc hB.size (.cells #[.int .i64 0, .int .i64 0, .int .i64 2147483648] 23)
  generalize v0.alloc (.cells #[.int .i64 0, .int .i64 0, .int .i64 2147483648] 23) = u0 at *
  generalize v0.heap.size = b0 at *
  go_upto_region 4 with (first | (refine wpList_load_rowG ?hw _ _ rfl _ rfl _ _ _ _ p Try.underlying23 rfl ?hi ?_; (case hw => (first | rfl | (simp [Region.wanted, yielded]; done))); (case hi => kernel_rfl)) | (go_at_call 42; with_reducible refine (K1.out _).mono ?_; rintro e v1 ⟨rfl, hb⟩; replace hB := hB.trans (hb.mono hB.size); replace p := p.below hb p.lt; replace r0 := r0.below hb r0.lt; clear hb))
  have r1 := blk.new v1 #[.int .i64 0, .int .i64 0, .int .i64 (-2147483648)] 23
  replace p := p.alloc (.cells #[.int .i64 0, .int .i64 0, .int .i64 (-2147483648)] 23)
  replace r0 := r0.alloc (.cells #[.int .i64 0, .int .i64 0, .int .i64 (-2147483648)] 23)
  replace hB := hB.alloc hB.size (.cells #[.int .i64 0, .int .i64 0, .int .i64 (-2147483648)] 23)
  generalize v1.alloc (.cells #[.int .i64 0, .int .i64 0, .int .i64 (-2147483648)] 23) = u1 at *
  generalize v1.heap.size = b1 at *
  go_upto_region 5 with (first | (refine wpList_load_rowG ?hw _ _ rfl _ rfl _ _ _ _ p Try.underlying23 rfl ?hi ?_; (case hw => (first | rfl | (simp [Region.wanted, yielded]; done))); (case hi => kernel_rfl)) | (go_at_call 37; with_reducible refine (K2.out _).mono ?_; rintro e v2 ⟨rfl, hb⟩; replace hB := hB.trans (hb.mono hB.size); replace p := p.below hb p.lt; replace r0 := r0.below hb r0.lt; replace r1 := r1.below hb r1.lt; clear hb))
  have r2 := blk.new v2 #[.int .i64 0, .int .i64 (-5), .int .i64 0] 23
  replace p := p.alloc (.cells #[.int .i64 0, .int .i64 (-5), .int .i64 0] 23)
  replace r0 := r0.alloc (.cells #[.int .i64 0, .int .i64 (-5), .int .i64 0] 23)
  replace r1 := r1.alloc (.cells #[.int .i64 0, .int .i64 (-5), .int .i64 0] 23)
  replace hB := hB.alloc hB.size (.cells #[.int .i64 0, .int .i64 (-5), .int .i64 0] 23)
  generalize v2.alloc (.cells #[.int .i64 0, .int .i64 (-5), .int .i64 0] 23) = u2 at *
  generalize v2.heap.size = b2 at *
  go_upto_region 6 with (first | (refine wpList_load_rowG ?hw _ _ rfl _ rfl _ _ _ _ p Try.underlying23 rfl ?hi ?_; (case hw => (first | rfl | (simp [Region.wanted, yielded]; done))); (case hi => kernel_rfl)) | (go_at_call 37; with_reducible refine (K3.out _).mono ?_; rintro e v3 ⟨rfl, hb⟩; replace hB := hB.trans (hb.mono hB.size); replace p := p.below hb p.lt; replace r0 := r0.below hb r0.lt; replace r1 := r1.below hb r1.lt; replace r2 := r2.below hb r2.lt; clear hb))
  have r3 := blk.new v3 #[.int .i64 0, .int .i64 0, .int .i64 0] 23
  replace p := p.alloc (.cells #[.int .i64 0, .int .i64 0, .int .i64 0] 23)
  replace r0 := r0.alloc (.cells #[.int .i64 0, .int .i64 0, .int .i64 0] 23)
  replace r1 := r1.alloc (.cells #[.int .i64 0, .int .i64 0, .int .i64 0] 23)
  replace r2 := r2.alloc (.cells #[.int .i64 0, .int .i64 0, .int .i64 0] 23)
  replace hB := hB.alloc hB.size (.cells #[.int .i64 0, .int .i64 0, .int .i64 0] 23)
  generalize v3.alloc (.cells #[.int .i64 0, .int .i64 0, .int .i64 0] 23) = u3 at *
  generalize v3.heap.size = b3 at *
  clear r3
  go_upto_region 7 with (first | (refine wpList_load_rowG ?hw _ _ rfl _ rfl _ _ _ _ p Try.underlying23 rfl ?hi ?_; (case hw => (first | rfl | (simp [Region.wanted, yielded]; done))); (case hi => kernel_rfl)) | (go_at_call 40; with_reducible refine (K4.out _).mono ?_; rintro e v4 ⟨rfl, hb⟩; replace hB := hB.trans (hb.mono hB.size); replace p := p.below hb p.lt; replace r0 := r0.below hb r0.lt; replace r1 := r1.below hb r1.lt; replace r2 := r2.below hb r2.lt; clear hb))
  have r4 := blk.new v4 #[.int .i64 0, .int .i64 (-65536), .int .i64 0] 23
  replace p := p.alloc (.cells #[.int .i64 0, .int .i64 (-65536), .int .i64 0] 23)
  replace r0 := r0.alloc (.cells #[.int .i64 0, .int .i64 (-65536), .int .i64 0] 23)
  replace r1 := r1.alloc (.cells #[.int .i64 0, .int .i64 (-65536), .int .i64 0] 23)
  replace r2 := r2.alloc (.cells #[.int .i64 0, .int .i64 (-65536), .int .i64 0] 23)
  replace hB := hB.alloc hB.size (.cells #[.int .i64 0, .int .i64 (-65536), .int .i64 0] 23)
  generalize v4.alloc (.cells #[.int .i64 0, .int .i64 (-65536), .int .i64 0] 23) = u4 at *
  generalize v4.heap.size = b4 at *
  go_upto_region 8 with (first | (refine wpList_load_rowG ?hw _ _ rfl _ rfl _ _ _ _ p Try.underlying23 rfl ?hi ?_; (case hw => (first | rfl | (simp [Region.wanted, yielded]; done))); (case hi => kernel_rfl)) | (go_at_call 40; with_reducible refine (K5.out _).mono ?_; rintro e v5 ⟨rfl, hb⟩; replace hB := hB.trans (hb.mono hB.size); replace p := p.below hb p.lt; replace r0 := r0.below hb r0.lt; replace r1 := r1.below hb r1.lt; replace r2 := r2.below hb r2.lt; replace r4 := r4.below hb r4.lt; clear hb))
  have r5 := blk.new v5 #[.int .i64 0, .int .i64 0, .int .i64 0] 23
  replace p := p.alloc (.cells #[.int .i64 0, .int .i64 0, .int .i64 0] 23)
  replace r0 := r0.alloc (.cells #[.int .i64 0, .int .i64 0, .int .i64 0] 23)
  replace r1 := r1.alloc (.cells #[.int .i64 0, .int .i64 0, .int .i64 0] 23)
  replace r2 := r2.alloc (.cells #[.int .i64 0, .int .i64 0, .int .i64 0] 23)
  replace r4 := r4.alloc (.cells #[.int .i64 0, .int .i64 0, .int .i64 0] 23)
  replace hB := hB.alloc hB.size (.cells #[.int .i64 0, .int .i64 0, .int .i64 0] 23)
  generalize v5.alloc (.cells #[.int .i64 0, .int .i64 0, .int .i64 0] 23) = u5 at *
  generalize v5.heap.size = b5 at *
  clear r5
  go_upto_region 9 with (first | (refine wpList_load_rowG ?hw _ _ rfl _ rfl _ _ _ _ p Try.underlying23 rfl ?hi ?_; (case hw => (first | rfl | (simp [Region.wanted, yielded]; done))); (case hi => kernel_rfl)) | (go_at_call 42; with_reducible refine (K6.out _).mono ?_; rintro e v6 ⟨rfl, hb⟩; replace hB := hB.trans (hb.mono hB.size); replace p := p.below hb p.lt; replace r0 := r0.below hb r0.lt; replace r1 := r1.below hb r1.lt; replace r2 := r2.below hb r2.lt; replace r4 := r4.below hb r4.lt; clear hb))
  have r6 := blk.new v6 #[.int .i64 0, .int .i64 0, .int .i64 0] 23
  replace p := p.alloc (.cells #[.int .i64 0, .int .i64 0, .int .i64 0] 23)
  replace r0 := r0.alloc (.cells #[.int .i64 0, .int .i64 0, .int .i64 0] 23)
  replace r1 := r1.alloc (.cells #[.int .i64 0, .int .i64 0, .int .i64 0] 23)
  replace r2 := r2.alloc (.cells #[.int .i64 0, .int .i64 0, .int .i64 0] 23)
  replace r4 := r4.alloc (.cells #[.int .i64 0, .int .i64 0, .int .i64 0] 23)
  replace hB := hB.alloc hB.size (.cells #[.int .i64 0, .int .i64 0, .int .i64 0] 23)
  generalize v6.alloc (.cells #[.int .i64 0, .int .i64 0, .int .i64 0] 23) = u6 at *
  generalize v6.heap.size = b6 at *
  clear r6
  go_upto_region 10 with (first | (refine wpList_load_rowG ?hw _ _ rfl _ rfl _ _ _ _ p Try.underlying23 rfl ?hi ?_; (case hw => (first | rfl | (simp [Region.wanted, yielded]; done))); (case hi => kernel_rfl)) | (go_at_call 40; with_reducible refine (K7.out _).mono ?_; rintro e v7 ⟨rfl, hb⟩; replace hB := hB.trans (hb.mono hB.size); replace p := p.below hb p.lt; replace r0 := r0.below hb r0.lt; replace r1 := r1.below hb r1.lt; replace r2 := r2.below hb r2.lt; replace r4 := r4.below hb r4.lt; clear hb))
  have r7 := blk.new v7 #[.int .i64 0, .int .i64 0, .int .i64 0] 23
  replace p := p.alloc (.cells #[.int .i64 0, .int .i64 0, .int .i64 0] 23)
  replace r0 := r0.alloc (.cells #[.int .i64 0, .int .i64 0, .int .i64 0] 23)
  replace r1 := r1.alloc (.cells #[.int .i64 0, .int .i64 0, .int .i64 0] 23)
  replace r2 := r2.alloc (.cells #[.int .i64 0, .int .i64 0, .int .i64 0] 23)
  replace r4 := r4.alloc (.cells #[.int .i64 0, .int .i64 0, .int .i64 0] 23)
  replace hB := hB.alloc hB.size (.cells #[.int .i64 0, .int .i64 0, .int .i64 0] 23)
  generalize v7.alloc (.cells #[.int .i64 0, .int .i64 0, .int .i64 0] 23) = u7 at *
  generalize v7.heap.size = b7 at *
  clear r7
  go_wp2_with (first | (refine wpList_load_rowG ?hw _ _ rfl _ rfl _ _ _ _ r0 Try.underlying23 rfl ?hi ?_; (case hw => (first | rfl | (simp [Region.wanted, yielded]; done))); (case hi => kernel_rfl)) | (refine wpList_load_rowG ?hw _ _ rfl _ rfl _ _ _ _ r1 Try.underlying23 rfl ?hi ?_; (case hw => (first | rfl | (simp [Region.wanted, yielded]; done))); (case hi => kernel_rfl)) | (refine wpList_load_rowG ?hw _ _ rfl _ rfl _ _ _ _ r2 Try.underlying23 rfl ?hi ?_; (case hw => (first | rfl | (simp [Region.wanted, yielded]; done))); (case hi => kernel_rfl)) | (refine wpList_load_rowG ?hw _ _ rfl _ rfl _ _ _ _ r4 Try.underlying23 rfl ?hi ?_; (case hw => (first | rfl | (simp [Region.wanted, yielded]; done))); (case hi => kernel_rfl)) | (go_at_call 39; refine (awakeM_any _).mono ?_; rintro e wx ⟨rfl, hb⟩; replace hB := hB.trans (hb.mono hB.size); clear hb))
  go_ret
  exact ⟨rfl, hB⟩
end Go.Proofs.Ythkklhfnmodpnaa
