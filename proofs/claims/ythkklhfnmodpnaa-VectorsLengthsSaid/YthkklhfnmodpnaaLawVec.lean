/-
  What the statements on vectors ask for first, and the equality of vectors.
-/
import Derived.Test.YthkklhfnmodpnaaVecF
set_option linter.unusedSimpArgs false
set_option linter.unusedVariables false
namespace Go.Proofs.Ythkklhfnmodpnaa
open Go.RowKit PM Dt
/-- The components of a vector out of three numbers. -/
def of3 (a b c : Int) : Nat → Int
  | 0 => a
  | 1 => b
  | _ => c
theorem of3_cells (a b c : Int) : #[Value.int .i64 a, .int .i64 b, .int .i64 c] = vfn (of3 a b c) := by unfold vfn; rfl
theorem vec_eq (f g : Nat → Int) (w : World) :
    (Op.equalIn 10000 23 (.agg (vfn f)) (.agg (vfn g))).run Try.prog w = .ok ((List.range 3).all fun j => f j == g j) w := by
  obtain ⟨i, hi⟩ : ∃ i, Try.prog.info? 2 = some i := Option.isSome_iff_exists.1 (by kernel_rfl)
  have hc : Try.prog.cellsOf 2 = 1 := by kernel_rfl
  exact run_equalIn_ints (P := Try.prog) Try.underlying23 hi hc Try.underlying2 f g (vfn f) (vfn g) (fun j hj => vfn_get _ hj) (fun j hj => vfn_get _ hj) 9998 w
theorem vec_eq_self (f : Nat → Int) (w : World) : (Op.equalIn 10000 23 (.agg (vfn f)) (.agg (vfn f))).run Try.prog w = .ok true w := by
  rw [vec_eq]; congr 1; simp
theorem aw_cross : vcrossF (of3 1073741824 0 0) (of3 0 1073741824 0) = crossX (of3 1073741824 0 0) (of3 0 1073741824 0) ∧ vcrossE (of3 1073741824 0 0) (of3 0 1073741824 0) = 0 := by
  have h1 : okV (of3 1073741824 0 0) = true := by decide +kernel
  have h2 : okV (of3 0 1073741824 0) = true := by decide +kernel
  have h3 : okV (crossX (of3 1073741824 0 0) (of3 0 1073741824 0)) = true := by decide +kernel
  unfold vcrossF vcrossE
  rw [h1, h2, h3]
  exact ⟨rfl, rfl⟩
theorem aw_cells : vfn (vcrossF (of3 1073741824 0 0) (of3 0 1073741824 0)) = vfn (of3 0 0 1073741824) := by
  rw [aw_cross.1]
  apply vfn_congr
  intro i hi
  have : i = 0 ∨ i = 1 ∨ i = 2 := by omega
  rcases this with rfl | rfl | rfl <;> decide +kernel
theorem aw_norm : normV (of3 3 4 12) = 13 ∧ normE (of3 3 4 12) = 0 := by
  have h1 : okV (of3 3 4 12) = true := by decide +kernel
  have h : sqs [of3 3 4 12 0, of3 3 4 12 1, of3 3 4 12 2] = 169 := by rw [sqs_cons, sqs_cons, sqs_cons, sqs_nil]; rfl
  have h2 : hypQ [of3 3 4 12 0, of3 3 4 12 1, of3 3 4 12 2] = 13 := by
    unfold hypQ; rw [h, show isqrt 169 = 13 from isqrt_eq (by decide) (by decide) (by decide)]; rfl
  unfold normV normE
  rw [h1, if_pos rfl, if_pos rfl, h2]
  exact ⟨rfl, rfl⟩
set_option maxRecDepth 100000 in
set_option maxHeartbeats 1000000 in
theorem awakeV_any (w : World) : Calls Try.prog 23 #[] w fun e w' => e = .returned (.bool true) ∧ Below w.heap.size w w' := by
  have C := Lib.hid (fun w => vcross_any (of3 1073741824 0 0) (of3 0 1073741824 0) w)
  have N := Lib.hid (fun w => vnorm_any (of3 3 4 12) w)
  have V := Lib.hid (fun w => valid_any (of3 1073741824 0 0) w)
  rw [aw_cells, aw_cross.2] at C
  rw [aw_norm.1, aw_norm.2] at N
  rw [show okV (of3 1073741824 0 0) = true by decide +kernel] at V
  have hq := vec_eq_self (of3 0 0 1073741824)
  simp only [← of3_cells] at C N V hq
  go_enter Try.func23, Try.ntmps23
  have hB : Below w.heap.size w ((w.alloc (.cells #[.int .i64 1073741824, .int .i64 0, .int .i64 0] 23)).alloc (.cells #[.int .i64 0, .int .i64 1073741824, .int .i64 0] 23)) := by go_grown
  have p0 := (blk.new w #[.int .i64 1073741824, .int .i64 0, .int .i64 0] 23).alloc (.cells #[.int .i64 0, .int .i64 1073741824, .int .i64 0] 23)
  have p1 : blk ((w.alloc (.cells #[.int .i64 1073741824, .int .i64 0, .int .i64 0] 23)).alloc (.cells #[.int .i64 0, .int .i64 1073741824, .int .i64 0] 23)) (w.heap.size + 1) #[.int .i64 0, .int .i64 1073741824, .int .i64 0] 23 := blk.new' (by simp)
  go_upto_region 2 with (fail)
  generalize (w.alloc (.cells #[.int .i64 1073741824, .int .i64 0, .int .i64 0] 23)).alloc (.cells #[.int .i64 0, .int .i64 1073741824, .int .i64 0] 23) = w0 at *
  go_upto_region 3 with (first
    | (refine wpList_load_rowG ?hw _ _ rfl _ rfl _ _ _ _ p0 Try.underlying23 rfl ?hi ?_; (case hw => (first | rfl | (simp [Region.wanted, yielded]; done))); (case hi => kernel_rfl))
    | (refine wpList_load_rowG ?hw _ _ rfl _ rfl _ _ _ _ p1 Try.underlying23 rfl ?hi ?_; (case hw => (first | rfl | (simp [Region.wanted, yielded]; done))); (case hi => kernel_rfl))
    | (go_at_call 52; refine (C.out _).mono ?_; rintro e w1 ⟨rfl, hb⟩; replace hB := hB.trans (hb.mono hB.size); replace p0 := p0.below hb p0.lt; clear hb))
  have p3 := blk.new w1 #[.int .i64 0, .int .i64 0, .int .i64 1073741824] 23
  replace p0 := p0.alloc (.cells #[.int .i64 0, .int .i64 0, .int .i64 1073741824] 23)
  replace hB := hB.alloc hB.size (.cells #[.int .i64 0, .int .i64 0, .int .i64 1073741824] 23)
  generalize w1.alloc (.cells #[.int .i64 0, .int .i64 0, .int .i64 1073741824] 23) = w2 at *
  generalize w1.heap.size = b3 at *
  go_wp2_with (first
    | (refine wpList_load_rowG ?hw _ _ rfl _ rfl _ _ _ _ p0 Try.underlying23 rfl ?hi ?_; (case hw => (first | rfl | (simp [Region.wanted, yielded]; done))); (case hi => kernel_rfl))
    | (refine wpList_load_rowG ?hw _ _ rfl _ rfl _ _ _ _ p3 Try.underlying23 rfl ?hi ?_; (case hw => (first | rfl | (simp [Region.wanted, yielded]; done))); (case hi => kernel_rfl))
    | (go_at_call 51; refine (N.out _).mono ?_; rintro e w3 ⟨rfl, hb⟩; replace hB := hB.trans (hb.mono hB.size); replace p0 := p0.below hb p0.lt; replace p3 := p3.below hb p3.lt; clear hb)
    | (go_at_call 59; refine (V.out _).mono ?_; rintro e w3 ⟨rfl, hb⟩; replace hB := hB.trans (hb.mono hB.size); clear hb))
  go_ret
  exact ⟨rfl, hB⟩
end Go.Proofs.Ythkklhfnmodpnaa
