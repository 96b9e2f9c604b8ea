/-
  What the statements on magnets ask for first.
-/
import Derived.Test.YthkklhfnmodpnaaMagC
import Derived.Test.YthkklhfnmodpnaaMagD
import Derived.Test.YthkklhfnmodpnaaLawVec
set_option linter.unusedSimpArgs false
set_option linter.unusedVariables false
namespace Go.Proofs.Ythkklhfnmodpnaa
open Go.RowKit PM Dt
theorem nrm_one {f : Nat → Int} (h1 : okV f = true) (h : f 0 * f 0 + f 1 * f 1 + f 2 * f 2 = 1152921504606846976) : normV f = 1073741824 ∧ normE f = 0 := by
  have hs : sqs [f 0, f 1, f 2] = 1152921504606846976 := by
    rw [sqs_cons, sqs_cons, sqs_cons, sqs_nil]
    have e : ∀ a : Int, ((a.natAbs * a.natAbs : Nat) : Int) = a * a := fun a => by rw [Int.natCast_mul]; exact Int.natAbs_mul_self' a
    have := e (f 0)
    have := e (f 1)
    have := e (f 2)
    omega
  have h2 : hypQ [f 0, f 1, f 2] = 1073741824 := by
    unfold hypQ; rw [hs, show isqrt 1152921504606846976 = 1073741824 from isqrt_eq (by decide) (by decide) (by decide)]; rfl
  unfold normV normE
  rw [h1, if_pos rfl, if_pos rfl, h2]
  exact ⟨rfl, rfl⟩
theorem awm_at : vfn (atF (of3 1073741824 0 0) (of3 0 0 1073741824)) = vfn (of3 0 0 (-1073741824)) ∧ atE (of3 1073741824 0 0) (of3 0 0 1073741824) = 0 := by
  have n1 := nrm_one (f := of3 1073741824 0 0) (by decide +kernel) (by decide)
  have n2 := nrm_one (f := of3 0 0 1073741824) (by decide +kernel) (by decide)
  have hk : atOk (of3 1073741824 0 0) (of3 0 0 1073741824) = true := by
    unfold atOk
    rw [n1.1, n1.2, n2.1, n2.2]
    decide
  unfold atF atE
  rw [hk]
  refine ⟨?_, rfl⟩
  apply vfn_congr
  intro i hi
  have : i = 0 ∨ i = 1 ∨ i = 2 := by omega
  rcases this with rfl | rfl | rfl <;> decide +kernel
theorem awm_unl : vfn (unlF (of3 7 0 9) (of3 0 0 1073741824)) = vfn (of3 0 (-7) 0) ∧ unlE (of3 7 0 9) (of3 0 0 1073741824) = 0 := by
  have hk : unlOk (of3 7 0 9) (of3 0 0 1073741824) = true := by decide +kernel
  have hc : smallB (vcrossF (of3 7 0 9) (of3 0 0 1073741824)) 65536 = true := by decide +kernel
  unfold unlF unlE
  rw [hk]
  refine ⟨?_, rfl⟩
  rw [if_pos rfl, halved_small hc]
  apply vfn_congr
  intro i hi
  have : i = 0 ∨ i = 1 ∨ i = 2 := by omega
  rcases this with rfl | rfl | rfl <;> decide +kernel
theorem awm_torq : vfn (torqF (of3 0 (-7) 0) (of3 0 0 1073741824)) = vfn (of3 (-7) 0 0) ∧ torqE (of3 0 (-7) 0) (of3 0 0 1073741824) = 0 := by
  have hk : torqOk (of3 0 (-7) 0) (of3 0 0 1073741824) = true := by decide +kernel
  have hE : vcrossE (of3 0 (-7) 0) (of3 0 0 1073741824) = 0 := by decide +kernel
  unfold torqF torqE
  rw [hk, hE]
  refine ⟨?_, rfl⟩
  rw [if_pos rfl]
  apply vfn_congr
  intro i hi
  have : i = 0 ∨ i = 1 ∨ i = 2 := by omega
  rcases this with rfl | rfl | rfl <;> decide +kernel
theorem of3_I {a b c : Int} (ha : I64 a) (hb : I64 b) (hc : I64 c) : ∀ i, i < 3 → I64 (of3 a b c i) := by
  intro i hi
  have : i = 0 ∨ i = 1 ∨ i = 2 := by omega
  rcases this with rfl | rfl | rfl <;> assumption
set_option maxRecDepth 100000 in
set_option maxHeartbeats 2000000 in
theorem awakeM_any (w : World) : Calls Try.prog 39 #[] w fun e w' => e = .returned (.bool true) ∧ Below w.heap.size w w' := by
  have hI : ∀ i, i < 3 → I64 (of3 0 0 1073741824 i) := of3_I ⟨by decide, by decide⟩ ⟨by decide, by decide⟩ ⟨by decide, by decide⟩
  have C := Lib.hid (fun w => at_any (of3 1073741824 0 0) (of3 0 0 1073741824) w hI)
  have N := Lib.hid (fun w => unl_any (of3 7 0 9) (of3 0 0 1073741824) w)
  have V := Lib.hid (fun w => torq_any (of3 0 (-7) 0) (of3 0 0 1073741824) w)
  rw [awm_at.1, awm_at.2] at C
  rw [awm_unl.1, awm_unl.2] at N
  rw [awm_torq.1, awm_torq.2] at V
  have hq := vec_eq_self (of3 0 0 (-1073741824))
  have hq2 := vec_eq_self (of3 0 (-7) 0)
  have hq3 := vec_eq_self (of3 (-7) 0 0)
  simp only [← of3_cells] at C N V hq hq2 hq3
  clear hI
  go_enter Try.func39, Try.ntmps39
  have hB : Below w.heap.size w ((w.alloc (.cells #[.int .i64 1073741824, .int .i64 0, .int .i64 0] 23)).alloc (.cells #[.int .i64 0, .int .i64 0, .int .i64 1073741824] 23)) := by go_grown
  have p0 := (blk.new w #[.int .i64 1073741824, .int .i64 0, .int .i64 0] 23).alloc (.cells #[.int .i64 0, .int .i64 0, .int .i64 1073741824] 23)
  have p1 : blk ((w.alloc (.cells #[.int .i64 1073741824, .int .i64 0, .int .i64 0] 23)).alloc (.cells #[.int .i64 0, .int .i64 0, .int .i64 1073741824] 23)) (w.heap.size + 1) #[.int .i64 0, .int .i64 0, .int .i64 1073741824] 23 := blk.new' (by simp)
  go_upto_region 2 with (fail)
  generalize (w.alloc (.cells #[.int .i64 1073741824, .int .i64 0, .int .i64 0] 23)).alloc (.cells #[.int .i64 0, .int .i64 0, .int .i64 1073741824] 23) = w0 at *
  go_upto_region 3 with (first | (refine wpList_load_rowG ?hw _ _ rfl _ rfl _ _ _ _ p0 Try.underlying23 rfl ?hi ?_; (case hw => (first | rfl | (simp [Region.wanted, yielded]; done))); (case hi => kernel_rfl)) | (refine wpList_load_rowG ?hw _ _ rfl _ rfl _ _ _ _ p1 Try.underlying23 rfl ?hi ?_; (case hw => (first | rfl | (simp [Region.wanted, yielded]; done))); (case hi => kernel_rfl)) | (go_at_call 42; refine (C.out _).mono ?_; rintro e w1 ⟨rfl, hb⟩; replace hB := hB.trans (hb.mono hB.size); replace p1 := p1.below hb p1.lt; clear hb p0))
  have r1 := blk.new w1 #[.int .i64 0, .int .i64 0, .int .i64 (-1073741824)] 23
  replace p1 := p1.alloc (.cells #[.int .i64 0, .int .i64 0, .int .i64 (-1073741824)] 23)
  replace hB := hB.alloc hB.size (.cells #[.int .i64 0, .int .i64 0, .int .i64 (-1073741824)] 23)
  generalize w1.alloc (.cells #[.int .i64 0, .int .i64 0, .int .i64 (-1073741824)] 23) = w2 at *
  generalize w1.heap.size = b1 at *
  go_upto_region 4 with (first | (refine wpList_load_rowG ?hw _ _ rfl _ rfl _ _ _ _ p1 Try.underlying23 rfl ?hi ?_; (case hw => (first | rfl | (simp [Region.wanted, yielded]; done))); (case hi => kernel_rfl)) | (go_at_call 40; refine (N.out _).mono ?_; rintro e w3 ⟨rfl, hb⟩; replace hB := hB.trans (hb.mono hB.size); replace p1 := p1.below hb p1.lt; replace r1 := r1.below hb r1.lt; clear hb))
  have r2 := blk.new w3 #[.int .i64 0, .int .i64 (-7), .int .i64 0] 23
  replace p1 := p1.alloc (.cells #[.int .i64 0, .int .i64 (-7), .int .i64 0] 23)
  replace r1 := r1.alloc (.cells #[.int .i64 0, .int .i64 (-7), .int .i64 0] 23)
  replace hB := hB.alloc hB.size (.cells #[.int .i64 0, .int .i64 (-7), .int .i64 0] 23)
  generalize w3.alloc (.cells #[.int .i64 0, .int .i64 (-7), .int .i64 0] 23) = w4 at *
  generalize w3.heap.size = b2 at *
  go_upto_region 5 with (first | (refine wpList_load_rowG ?hw _ _ rfl _ rfl _ _ _ _ p1 Try.underlying23 rfl ?hi ?_; (case hw => (first | rfl | (simp [Region.wanted, yielded]; done))); (case hi => kernel_rfl)) | (refine wpList_load_rowG ?hw _ _ rfl _ rfl _ _ _ _ r2 Try.underlying23 rfl ?hi ?_; (case hw => (first | rfl | (simp [Region.wanted, yielded]; done))); (case hi => kernel_rfl)) | (go_at_call 37; refine (V.out _).mono ?_; rintro e w5 ⟨rfl, hb⟩; replace hB := hB.trans (hb.mono hB.size); replace r1 := r1.below hb r1.lt; replace r2 := r2.below hb r2.lt; clear hb p1))
  have r3 := blk.new w5 #[.int .i64 (-7), .int .i64 0, .int .i64 0] 23
  replace r1 := r1.alloc (.cells #[.int .i64 (-7), .int .i64 0, .int .i64 0] 23)
  replace r2 := r2.alloc (.cells #[.int .i64 (-7), .int .i64 0, .int .i64 0] 23)
  replace hB := hB.alloc hB.size (.cells #[.int .i64 (-7), .int .i64 0, .int .i64 0] 23)
  generalize w5.alloc (.cells #[.int .i64 (-7), .int .i64 0, .int .i64 0] 23) = w6 at *
  generalize w5.heap.size = b3 at *
  go_wp2_with (first | (refine wpList_load_rowG ?hw _ _ rfl _ rfl _ _ _ _ r1 Try.underlying23 rfl ?hi ?_; (case hw => (first | rfl | (simp [Region.wanted, yielded]; done))); (case hi => kernel_rfl)) | (refine wpList_load_rowG ?hw _ _ rfl _ rfl _ _ _ _ r2 Try.underlying23 rfl ?hi ?_; (case hw => (first | rfl | (simp [Region.wanted, yielded]; done))); (case hi => kernel_rfl)) | (refine wpList_load_rowG ?hw _ _ rfl _ rfl _ _ _ _ r3 Try.underlying23 rfl ?hi ?_; (case hw => (first | rfl | (simp [Region.wanted, yielded]; done))); (case hi => kernel_rfl)))
  go_ret
  exact ⟨rfl, hB⟩
end Go.Proofs.Ythkklhfnmodpnaa
