/-
  Vectors turned by a quaternion, in the package and in the specification. What the statements on quaternions ask for first, and the equality of quaternions. A quaternion of four numbers as a row's argument: opened and shut.
-/
import Derived.Test.YtcgpcehdeihalaaQuatF
import Derived.Test.YtcgpcehdeihalaaVecQ
import Derived.Test.YtcgpcehdeihalaaLawVec
import Derived.Test.YtcgpcehdeihalaaFrameV
import Derived.Laws.IdiomArrays
import Derived.WalkKit
import Derived.ProofKit
import Derived.OpenShut
import Derived.ShutString
import Derived.ChangeOld
import Derived.Below
set_option linter.unusedSimpArgs false
set_option linter.unusedVariables false
namespace Go.Proofs.Ytcgpcehdeihalaa
open Go.RowKit PM Dt
def qrotF (f v : Nat → Int) : Nat → Int := if validQ f then vapplyF (qmatX f) v else fun _ => 0
def qrotE (f v : Nat → Int) : Int := if validQ f then vapplyE (qmatX f) v else 2
def qbackF (f v : Nat → Int) : Nat → Int := if validQ f then vbackF (qmatX f) v else fun _ => 0
def qbackE (f v : Nat → Int) : Int := if validQ f then vbackE (qmatX f) v else 2
set_option maxRecDepth 100000 in
set_option maxHeartbeats 4000000 in
theorem qrot_any (f v : Nat → Int) (w : World) (hI : ∀ i, i < 4 → I64 (f i)) : Calls Try.prog 18 #[.agg (qfn f), .agg (vfn v)] w fun e w' => e = .returned (.tuple #[.agg (vfn (qrotF f v)), .int .i64 (qrotE f v)]) ∧ Below w.heap.size w w' := by
  have M := Lib.hid (fun w => qmat_any f w hI)
  have AP := Lib.hid (fun w => vapply_any (qmatX f) v w)
  unfold qmatF qmatE at M
  unfold qrotF qrotE
  obtain ⟨bv, hv⟩ : ∃ b, validQ f = b := ⟨_, rfl⟩
  rw [hv] at M ⊢
  clear hv hI
  generalize vapplyF (qmatX f) v = F at *
  generalize vapplyE (qmatX f) v = E at *
  generalize qmatX f = X at *
  cases bv
  · replace M : Hid (∀ w, Calls Try.prog 50 #[.agg (qfn f)] w fun e w' => e = .returned (.tuple #[.agg (mfn fun _ => 0), .int .i64 2]) ∧ Below w.heap.size w w') := M
    go_enter Try.func18, Try.ntmps18
    go_upto_region 1 with (fail)
    rw [zero_vec]
    have p : blk (((w.alloc (.cells (qfn f) 23)).alloc (.cells (vfn v) 25)).alloc (.cells (vfn fun _ => 0) 25)) w.heap.size (qfn f) 23 := ((blk.new _ _ _).alloc _).alloc _
    have q : blk (((w.alloc (.cells (qfn f) 23)).alloc (.cells (vfn v) 25)).alloc (.cells (vfn fun _ => 0) 25)) (w.heap.size + 1) (vfn v) 25 := (blk.new' (by simp)).alloc _
    have r : blk (((w.alloc (.cells (qfn f) 23)).alloc (.cells (vfn v) 25)).alloc (.cells (vfn fun _ => 0) 25)) (w.heap.size + 1 + 1) (vfn fun _ => 0) 25 := blk.new' (by simp)
    have hB : Below w.heap.size w (((w.alloc (.cells (qfn f) 23)).alloc (.cells (vfn v) 25)).alloc (.cells (vfn fun _ => 0) 25)) := by go_grown
    generalize ((w.alloc (.cells (qfn f) 23)).alloc (.cells (vfn v) 25)).alloc (.cells (vfn fun _ => 0) 25) = w0 at *
    go_upto_region 2 with (first | (refine wpList_load_rowG ?hw _ _ rfl _ rfl _ _ _ _ p Try.underlying23 rfl ?hi ?_; (case hw => (first | rfl | (simp [Region.wanted, yielded]; done))); (case hi => (rw [qfn_size]; kernel_rfl))) | (go_at_call 50; with_reducible refine (M.out _).mono ?_; rintro e w1 ⟨rfl, hb⟩; replace hB := hB.trans (hb.mono hB.size); replace p := p.below hb p.lt; replace q := q.below hb q.lt; replace r := r.below hb r.lt; clear hb) | (rw [zero_mat]; refine wpList_store_row rfl _ _ _ rfl _ rfl _ rfl _ _ (blk.new _ _ _) (by rw [mfn_size]; kernel_rfl) (by simp only [mfn_size]) (mfn_one _) ?_))
    have m := (blk.new w1 (mfn fun _ => 0) 75).row (mfn (fun _ => 0))
    have hne : ∀ x, x < w1.heap.size → x ≠ w1.heap.size := fun x hx => Nat.ne_of_lt hx
    replace p := (p.alloc (.cells (mfn fun _ => 0) 75)).rowOther (hne _ p.lt) (mfn (fun _ => 0))
    replace q := (q.alloc (.cells (mfn fun _ => 0) 75)).rowOther (hne _ q.lt) (mfn (fun _ => 0))
    replace r := (r.alloc (.cells (mfn fun _ => 0) 75)).rowOther (hne _ r.lt) (mfn (fun _ => 0))
    replace hB := Below.setRow (hB.alloc hB.size (.cells (mfn fun _ => 0) 75)) (g := w1.heap.size) hB.size (mfn (fun _ => 0))
    clear hne
    generalize (w1.alloc (.cells (mfn fun _ => 0) 75)).setRow w1.heap.size (mfn (fun _ => 0)) = w2 at *
    generalize w1.heap.size = mb at *
    go_wp2_with ((rw [zero_vec]; refine wpList_store_row rfl _ _ _ rfl _ rfl _ rfl _ _ r (by rw [vfn_size]; kernel_rfl) (by simp only [vfn_size]) (vfn_one _) ?_))
    refine bodyPost_ret (results_vec rfl _ _ _ _ _ _ _ rfl (r.row (vfn (fun _ => 0))) Try.underlying25 rfl (by rw [vfn_size]; kernel_rfl)) rfl ?_; refine ⟨?_, Below.setRow hB (by omega) _⟩
    rfl
  · replace M : Hid (∀ w, Calls Try.prog 50 #[.agg (qfn f)] w fun e w' => e = .returned (.tuple #[.agg (mfn X), .int .i64 0]) ∧ Below w.heap.size w w') := M
    go_enter Try.func18, Try.ntmps18
    go_upto_region 1 with (fail)
    rw [zero_vec]
    have p : blk (((w.alloc (.cells (qfn f) 23)).alloc (.cells (vfn v) 25)).alloc (.cells (vfn fun _ => 0) 25)) w.heap.size (qfn f) 23 := ((blk.new _ _ _).alloc _).alloc _
    have q : blk (((w.alloc (.cells (qfn f) 23)).alloc (.cells (vfn v) 25)).alloc (.cells (vfn fun _ => 0) 25)) (w.heap.size + 1) (vfn v) 25 := (blk.new' (by simp)).alloc _
    have r : blk (((w.alloc (.cells (qfn f) 23)).alloc (.cells (vfn v) 25)).alloc (.cells (vfn fun _ => 0) 25)) (w.heap.size + 1 + 1) (vfn fun _ => 0) 25 := blk.new' (by simp)
    have hB : Below w.heap.size w (((w.alloc (.cells (qfn f) 23)).alloc (.cells (vfn v) 25)).alloc (.cells (vfn fun _ => 0) 25)) := by go_grown
    generalize ((w.alloc (.cells (qfn f) 23)).alloc (.cells (vfn v) 25)).alloc (.cells (vfn fun _ => 0) 25) = w0 at *
    go_upto_region 2 with (first | (refine wpList_load_rowG ?hw _ _ rfl _ rfl _ _ _ _ p Try.underlying23 rfl ?hi ?_; (case hw => (first | rfl | (simp [Region.wanted, yielded]; done))); (case hi => (rw [qfn_size]; kernel_rfl))) | (go_at_call 50; with_reducible refine (M.out _).mono ?_; rintro e w1 ⟨rfl, hb⟩; replace hB := hB.trans (hb.mono hB.size); replace p := p.below hb p.lt; replace q := q.below hb q.lt; replace r := r.below hb r.lt; clear hb) | (rw [zero_mat]; refine wpList_store_row rfl _ _ _ rfl _ rfl _ rfl _ _ (blk.new _ _ _) (by rw [mfn_size]; kernel_rfl) (by simp only [mfn_size]) (mfn_one _) ?_))
    have m := (blk.new w1 (mfn fun _ => 0) 75).row (mfn X)
    have hne : ∀ x, x < w1.heap.size → x ≠ w1.heap.size := fun x hx => Nat.ne_of_lt hx
    replace p := (p.alloc (.cells (mfn fun _ => 0) 75)).rowOther (hne _ p.lt) (mfn X)
    replace q := (q.alloc (.cells (mfn fun _ => 0) 75)).rowOther (hne _ q.lt) (mfn X)
    replace r := (r.alloc (.cells (mfn fun _ => 0) 75)).rowOther (hne _ r.lt) (mfn X)
    replace hB := Below.setRow (hB.alloc hB.size (.cells (mfn fun _ => 0) 75)) (g := w1.heap.size) hB.size (mfn X)
    clear hne
    generalize (w1.alloc (.cells (mfn fun _ => 0) 75)).setRow w1.heap.size (mfn X) = w2 at *
    generalize w1.heap.size = mb at *
    go_wp2_with (first | (refine wpList_load_rowG ?hw _ _ rfl _ rfl _ _ _ _ m Try.underlying75 rfl ?hi ?_; (case hw => (first | rfl | (simp [Region.wanted, yielded]; done))); (case hi => (rw [mfn_size]; kernel_rfl))) | (refine wpList_load_rowG ?hw _ _ rfl _ rfl _ _ _ _ q Try.underlying25 rfl ?hi ?_; (case hw => (first | rfl | (simp [Region.wanted, yielded]; done))); (case hi => (rw [vfn_size]; kernel_rfl))) | (go_at_call 51; with_reducible refine (AP.out _).mono ?_; rintro e w3 ⟨rfl, hb⟩; replace hB := hB.trans (hb.mono hB.size); replace r := r.below hb r.lt; clear hb) | (refine wpList_store_row rfl _ _ _ rfl _ rfl _ rfl _ _ r (by rw [vfn_size]; kernel_rfl) (by simp only [vfn_size]) (vfn_one _) ?_))
    refine bodyPost_ret (results_vec rfl _ _ _ _ _ _ _ rfl (r.row (vfn F)) Try.underlying25 rfl (by rw [vfn_size]; kernel_rfl)) rfl ?_; refine ⟨?_, Below.setRow hB (by omega) _⟩
    rfl
set_option maxRecDepth 100000 in
set_option maxHeartbeats 4000000 in
theorem qback_any (f v : Nat → Int) (w : World) (hI : ∀ i, i < 4 → I64 (f i)) : Calls Try.prog 19 #[.agg (qfn f), .agg (vfn v)] w fun e w' => e = .returned (.tuple #[.agg (vfn (qbackF f v)), .int .i64 (qbackE f v)]) ∧ Below w.heap.size w w' := by
  have M := Lib.hid (fun w => qmat_any f w hI)
  have AP := Lib.hid (fun w => vback_any (qmatX f) v w)
  unfold qmatF qmatE at M
  unfold qbackF qbackE
  obtain ⟨bv, hv⟩ : ∃ b, validQ f = b := ⟨_, rfl⟩
  rw [hv] at M ⊢
  clear hv hI
  generalize vbackF (qmatX f) v = F at *
  generalize vbackE (qmatX f) v = E at *
  generalize qmatX f = X at *
  cases bv
  · replace M : Hid (∀ w, Calls Try.prog 50 #[.agg (qfn f)] w fun e w' => e = .returned (.tuple #[.agg (mfn fun _ => 0), .int .i64 2]) ∧ Below w.heap.size w w') := M
    go_enter Try.func19, Try.ntmps19
    go_upto_region 1 with (fail)
    rw [zero_vec]
    have p : blk (((w.alloc (.cells (qfn f) 23)).alloc (.cells (vfn v) 25)).alloc (.cells (vfn fun _ => 0) 25)) w.heap.size (qfn f) 23 := ((blk.new _ _ _).alloc _).alloc _
    have q : blk (((w.alloc (.cells (qfn f) 23)).alloc (.cells (vfn v) 25)).alloc (.cells (vfn fun _ => 0) 25)) (w.heap.size + 1) (vfn v) 25 := (blk.new' (by simp)).alloc _
    have r : blk (((w.alloc (.cells (qfn f) 23)).alloc (.cells (vfn v) 25)).alloc (.cells (vfn fun _ => 0) 25)) (w.heap.size + 1 + 1) (vfn fun _ => 0) 25 := blk.new' (by simp)
    have hB : Below w.heap.size w (((w.alloc (.cells (qfn f) 23)).alloc (.cells (vfn v) 25)).alloc (.cells (vfn fun _ => 0) 25)) := by go_grown
    generalize ((w.alloc (.cells (qfn f) 23)).alloc (.cells (vfn v) 25)).alloc (.cells (vfn fun _ => 0) 25) = w0 at *
    go_upto_region 2 with (first | (refine wpList_load_rowG ?hw _ _ rfl _ rfl _ _ _ _ p Try.underlying23 rfl ?hi ?_; (case hw => (first | rfl | (simp [Region.wanted, yielded]; done))); (case hi => (rw [qfn_size]; kernel_rfl))) | (go_at_call 50; with_reducible refine (M.out _).mono ?_; rintro e w1 ⟨rfl, hb⟩; replace hB := hB.trans (hb.mono hB.size); replace p := p.below hb p.lt; replace q := q.below hb q.lt; replace r := r.below hb r.lt; clear hb) | (rw [zero_mat]; refine wpList_store_row rfl _ _ _ rfl _ rfl _ rfl _ _ (blk.new _ _ _) (by rw [mfn_size]; kernel_rfl) (by simp only [mfn_size]) (mfn_one _) ?_))
    have m := (blk.new w1 (mfn fun _ => 0) 75).row (mfn (fun _ => 0))
    have hne : ∀ x, x < w1.heap.size → x ≠ w1.heap.size := fun x hx => Nat.ne_of_lt hx
    replace p := (p.alloc (.cells (mfn fun _ => 0) 75)).rowOther (hne _ p.lt) (mfn (fun _ => 0))
    replace q := (q.alloc (.cells (mfn fun _ => 0) 75)).rowOther (hne _ q.lt) (mfn (fun _ => 0))
    replace r := (r.alloc (.cells (mfn fun _ => 0) 75)).rowOther (hne _ r.lt) (mfn (fun _ => 0))
    replace hB := Below.setRow (hB.alloc hB.size (.cells (mfn fun _ => 0) 75)) (g := w1.heap.size) hB.size (mfn (fun _ => 0))
    clear hne
    generalize (w1.alloc (.cells (mfn fun _ => 0) 75)).setRow w1.heap.size (mfn (fun _ => 0)) = w2 at *
    generalize w1.heap.size = mb at *
    go_wp2_with ((rw [zero_vec]; refine wpList_store_row rfl _ _ _ rfl _ rfl _ rfl _ _ r (by rw [vfn_size]; kernel_rfl) (by simp only [vfn_size]) (vfn_one _) ?_))
    refine bodyPost_ret (results_vec rfl _ _ _ _ _ _ _ rfl (r.row (vfn (fun _ => 0))) Try.underlying25 rfl (by rw [vfn_size]; kernel_rfl)) rfl ?_; refine ⟨?_, Below.setRow hB (by omega) _⟩
    rfl
  · replace M : Hid (∀ w, Calls Try.prog 50 #[.agg (qfn f)] w fun e w' => e = .returned (.tuple #[.agg (mfn X), .int .i64 0]) ∧ Below w.heap.size w w') := M
    go_enter Try.func19, Try.ntmps19
    go_upto_region 1 with (fail)
    rw [zero_vec]
    have p : blk (((w.alloc (.cells (qfn f) 23)).alloc (.cells (vfn v) 25)).alloc (.cells (vfn fun _ => 0) 25)) w.heap.size (qfn f) 23 := ((blk.new _ _ _).alloc _).alloc _
    have q : blk (((w.alloc (.cells (qfn f) 23)).alloc (.cells (vfn v) 25)).alloc (.cells (vfn fun _ => 0) 25)) (w.heap.size + 1) (vfn v) 25 := (blk.new' (by simp)).alloc _
    have r : blk (((w.alloc (.cells (qfn f) 23)).alloc (.cells (vfn v) 25)).alloc (.cells (vfn fun _ => 0) 25)) (w.heap.size + 1 + 1) (vfn fun _ => 0) 25 := blk.new' (by simp)
    have hB : Below w.heap.size w (((w.alloc (.cells (qfn f) 23)).alloc (.cells (vfn v) 25)).alloc (.cells (vfn fun _ => 0) 25)) := by go_grown
    generalize ((w.alloc (.cells (qfn f) 23)).alloc (.cells (vfn v) 25)).alloc (.cells (vfn fun _ => 0) 25) = w0 at *
    go_upto_region 2 with (first | (refine wpList_load_rowG ?hw _ _ rfl _ rfl _ _ _ _ p Try.underlying23 rfl ?hi ?_; (case hw => (first | rfl | (simp [Region.wanted, yielded]; done))); (case hi => (rw [qfn_size]; kernel_rfl))) | (go_at_call 50; with_reducible refine (M.out _).mono ?_; rintro e w1 ⟨rfl, hb⟩; replace hB := hB.trans (hb.mono hB.size); replace p := p.below hb p.lt; replace q := q.below hb q.lt; replace r := r.below hb r.lt; clear hb) | (rw [zero_mat]; refine wpList_store_row rfl _ _ _ rfl _ rfl _ rfl _ _ (blk.new _ _ _) (by rw [mfn_size]; kernel_rfl) (by simp only [mfn_size]) (mfn_one _) ?_))
    have m := (blk.new w1 (mfn fun _ => 0) 75).row (mfn X)
    have hne : ∀ x, x < w1.heap.size → x ≠ w1.heap.size := fun x hx => Nat.ne_of_lt hx
    replace p := (p.alloc (.cells (mfn fun _ => 0) 75)).rowOther (hne _ p.lt) (mfn X)
    replace q := (q.alloc (.cells (mfn fun _ => 0) 75)).rowOther (hne _ q.lt) (mfn X)
    replace r := (r.alloc (.cells (mfn fun _ => 0) 75)).rowOther (hne _ r.lt) (mfn X)
    replace hB := Below.setRow (hB.alloc hB.size (.cells (mfn fun _ => 0) 75)) (g := w1.heap.size) hB.size (mfn X)
    clear hne
    generalize (w1.alloc (.cells (mfn fun _ => 0) 75)).setRow w1.heap.size (mfn X) = w2 at *
    generalize w1.heap.size = mb at *
    go_wp2_with (first | (refine wpList_load_rowG ?hw _ _ rfl _ rfl _ _ _ _ m Try.underlying75 rfl ?hi ?_; (case hw => (first | rfl | (simp [Region.wanted, yielded]; done))); (case hi => (rw [mfn_size]; kernel_rfl))) | (refine wpList_load_rowG ?hw _ _ rfl _ rfl _ _ _ _ q Try.underlying25 rfl ?hi ?_; (case hw => (first | rfl | (simp [Region.wanted, yielded]; done))); (case hi => (rw [vfn_size]; kernel_rfl))) | (go_at_call 52; with_reducible refine (AP.out _).mono ?_; rintro e w3 ⟨rfl, hb⟩; replace hB := hB.trans (hb.mono hB.size); replace r := r.below hb r.lt; clear hb) | (refine wpList_store_row rfl _ _ _ rfl _ rfl _ rfl _ _ r (by rw [vfn_size]; kernel_rfl) (by simp only [vfn_size]) (vfn_one _) ?_))
    refine bodyPost_ret (results_vec rfl _ _ _ _ _ _ _ rfl (r.row (vfn F)) Try.underlying25 rfl (by rw [vfn_size]; kernel_rfl)) rfl ?_; refine ⟨?_, Below.setRow hB (by omega) _⟩
    rfl
end Go.Proofs.Ytcgpcehdeihalaa
namespace Go.Proofs.Ytcgpcehdeihalaa
open Go.RowKit PM Dt
/-- The components of a quaternion out of four numbers. -/
def of4 (a b c d : Int) : Nat → Int
  | 0 => a
  | 1 => b
  | 2 => c
  | _ => d
theorem of4_cells (a b c d : Int) : #[Value.int .i64 a, .int .i64 b, .int .i64 c, .int .i64 d] = qfn (of4 a b c d) := by unfold qfn; rfl
theorem quat_eq (f g : Nat → Int) (w : World) :
    (Op.equalIn 10000 23 (.agg (qfn f)) (.agg (qfn g))).run Try.prog w = .ok ((List.range 4).all fun j => f j == g j) w := by
  obtain ⟨i, hi⟩ : ∃ i, Try.prog.info? 2 = some i := Option.isSome_iff_exists.1 (by kernel_rfl)
  have hc : Try.prog.cellsOf 2 = 1 := by kernel_rfl
  exact run_equalIn_ints (P := Try.prog) Try.underlying23 hi hc Try.underlying2 f g (qfn f) (qfn g) (fun j hj => qfn_get _ hj) (fun j hj => qfn_get _ hj) 9998 w
theorem quat_eq_self (f : Nat → Int) (w : World) : (Op.equalIn 10000 23 (.agg (qfn f)) (.agg (qfn f))).run Try.prog w = .ok true w := by
  rw [quat_eq]; congr 1; simp
theorem awq_prod : qfn (qprodF (of4 0 1073741824 0 0) (of4 0 0 1073741824 0)) = qfn (of4 0 0 0 1073741824) ∧ qprodE (of4 0 1073741824 0 0) (of4 0 0 1073741824 0) = 0 := by
  have h1 : okQ (of4 0 1073741824 0 0) = true := by decide +kernel
  have h2 : okQ (of4 0 0 1073741824 0) = true := by decide +kernel
  unfold qprodF qprodE
  rw [h1, h2]
  refine ⟨?_, rfl⟩
  apply qfn_congr
  intro i hi
  have : i = 0 ∨ i = 1 ∨ i = 2 ∨ i = 3 := by omega
  rcases this with rfl | rfl | rfl | rfl <;> decide +kernel
theorem awq_valid : validQ (of4 0 0 0 1073741824) = true := by
  have h : sqs [of4 0 0 0 1073741824 0, of4 0 0 0 1073741824 1, of4 0 0 0 1073741824 2, of4 0 0 0 1073741824 3] = 1152921504606846976 := by rw [sqs4]; rfl
  have h2 : nQ (of4 0 0 0 1073741824) = 1073741824 := by
    unfold nQ hypQ; rw [h, show isqrt 1152921504606846976 = 1073741824 from isqrt_eq (by decide) (by decide) (by decide)]; rfl
  unfold validQ
  rw [h2]
  decide +kernel
theorem awq_rot : vfn (qrotF (of4 0 0 0 1073741824) (of3 1073741824 0 0)) = vfn (of3 (-1073741824) 0 0) ∧ qrotE (of4 0 0 0 1073741824) (of3 1073741824 0 0) = 0 := by
  have h1 : okM (qmatX (of4 0 0 0 1073741824)) = true := by decide +kernel
  have h2 : okV (of3 1073741824 0 0) = true := by decide +kernel
  have h3 : okV (applyX (qmatX (of4 0 0 0 1073741824)) (of3 1073741824 0 0)) = true := by decide +kernel
  unfold qrotF qrotE
  rw [awq_valid, if_pos rfl, if_pos rfl]
  unfold vapplyF vapplyE resF resE
  rw [h1, h2, h3]
  refine ⟨?_, rfl⟩
  apply vfn_congr
  intro i hi
  have : i = 0 ∨ i = 1 ∨ i = 2 := by omega
  rcases this with rfl | rfl | rfl <;> decide +kernel
theorem of4_I {a b c d : Int} (ha : I64 a) (hb : I64 b) (hc : I64 c) (hd : I64 d) : ∀ i, i < 4 → I64 (of4 a b c d i) := by
  intro i hi
  have : i = 0 ∨ i = 1 ∨ i = 2 ∨ i = 3 := by omega
  rcases this with rfl | rfl | rfl | rfl <;> assumption
set_option maxRecDepth 100000 in
set_option maxHeartbeats 2000000 in
theorem awakeQ_any (w : World) : Calls Try.prog 14 #[] w fun e w' => e = .returned (.bool true) ∧ Below w.heap.size w w' := by
  have hI : ∀ i, i < 4 → I64 (of4 0 0 0 1073741824 i) := of4_I ⟨by decide, by decide⟩ ⟨by decide, by decide⟩ ⟨by decide, by decide⟩ ⟨by decide, by decide⟩
  have C := Lib.hid (fun w => qprod_any (of4 0 1073741824 0 0) (of4 0 0 1073741824 0) w)
  have N := Lib.hid (fun w => qrot_any (of4 0 0 0 1073741824) (of3 1073741824 0 0) w hI)
  have V := Lib.hid (fun w => qvalid_any (of4 0 0 0 1073741824) w hI)
  rw [awq_prod.1, awq_prod.2] at C
  rw [awq_rot.1, awq_rot.2] at N
  rw [awq_valid] at V
  have hq := quat_eq_self (of4 0 0 0 1073741824)
  have hq2 := vec_eq_self (of3 (-1073741824) 0 0)
  simp only [← of4_cells, ← of3_cells] at C N V hq hq2
  clear hI
  go_enter Try.func14, Try.ntmps14
  go_upto_region 2 with (go_at_call 43; refine (C.out _).mono ?_; rintro e w1 ⟨rfl, hB⟩)
  have p0 := blk.new w1 #[.int .i64 0, .int .i64 0, .int .i64 0, .int .i64 1073741824] 23
  replace hB := hB.alloc hB.size (.cells #[.int .i64 0, .int .i64 0, .int .i64 0, .int .i64 1073741824] 23)
  generalize w1.alloc (.cells #[.int .i64 0, .int .i64 0, .int .i64 0, .int .i64 1073741824] 23) = w2 at *
  generalize w1.heap.size = b1 at *
  go_upto_region 3 with (go_at_call 18; refine (N.out _).mono ?_; rintro e w3 ⟨rfl, hb⟩; replace hB := hB.trans (hb.mono hB.size); replace p0 := p0.below hb p0.lt; clear hb)
  have p1 := blk.new w3 #[.int .i64 (-1073741824), .int .i64 0, .int .i64 0] 25
  replace p0 := p0.alloc (.cells #[.int .i64 (-1073741824), .int .i64 0, .int .i64 0] 25)
  replace hB := hB.alloc hB.size (.cells #[.int .i64 (-1073741824), .int .i64 0, .int .i64 0] 25)
  generalize w3.alloc (.cells #[.int .i64 (-1073741824), .int .i64 0, .int .i64 0] 25) = w4 at *
  generalize w3.heap.size = b3 at *
  go_wp2_with (first
    | (refine wpList_load_rowG ?hw _ _ rfl _ rfl _ _ _ _ p0 Try.underlying23 rfl ?hi ?_; (case hw => (first | rfl | (simp [Region.wanted, yielded]; done))); (case hi => kernel_rfl))
    | (refine wpList_load_rowG ?hw _ _ rfl _ rfl _ _ _ _ p1 Try.underlying25 rfl ?hi ?_; (case hw => (first | rfl | (simp [Region.wanted, yielded]; done))); (case hi => kernel_rfl))
    | (go_at_call 16; refine (V.out _).mono ?_; rintro e w5 ⟨rfl, hb⟩; replace hB := hB.trans (hb.mono hB.size); clear hb))
  go_ret
  exact ⟨rfl, hB⟩
end Go.Proofs.Ytcgpcehdeihalaa
namespace Go.Proofs.Ytcgpcehdeihalaa
open Go.ChangeShapes Go.WideShapes Go.ChangeAt Go.RowKit
theorem list4 {α : Type} (l : List α) (h : (⟨l⟩ : Array α).size = 4) : ∃ a b c d, l = [a, b, c, d] := by
  match l, h with
  | [a, b, c, d], _ => exact ⟨a, b, c, d, rfl⟩
/-- What a reader sees of a quaternion. -/
def quatD {H : Type} (f : Nat → Int) : DataW H := .agg [.lit (.int .i64 (f 0)), .lit (.int .i64 (f 1)), .lit (.int .i64 (f 2)), .lit (.int .i64 (f 3))]
set_option maxRecDepth 100000 in
theorem open_quat {H : Type} {enc : TypeId × Value → H} {W : World} {base : Nat} {spare : Nat → Bool} {held : Bool} {v : Value} {d : DataW H} {p : List MemPlace}
    (hval : Value.okWide Try.prog W .any base 23 v) (h : DataW.Trod enc Try.prog W 0 spare held 23 v d p) : ∃ f : Nat → Int, v = .agg (qfn f) ∧ d = quatD f ∧ p = [] ∧ ∀ i, i < 4 → (Lit.int .i64 (f i)).wf = true := by
  obtain ⟨cs, rfl, hsz, _⟩ : ∃ cs, v = .agg cs ∧ cs.size = Try.prog.cellsOf 23 ∧ Row.okWide Try.prog W .any base 23 cs := by
    simpa [Value.okWide, Try.underlying23] using hval
  rw [show Try.prog.cellsOf 23 = 4 by kernel_rfl] at hsz
  obtain ⟨l⟩ := cs
  obtain ⟨c0, c1, c2, c3, rfl⟩ := list4 l hsz
  obtain ⟨fuel, hf⟩ := h
  obtain ⟨y0, y1, y2, y3, m, hx, hy0, hy1, hy2, hy3⟩ := trod_array4 Try.underlying23 (by kernel_rfl) hf
  obtain ⟨x0, e0, rfl, w0⟩ := DataW.trod_int Try.underlying2 hy0
  obtain ⟨x1, e1, rfl, w1⟩ := DataW.trod_int Try.underlying2 hy1
  obtain ⟨x2, e2, rfl, w2⟩ := DataW.trod_int Try.underlying2 hy2
  obtain ⟨x3, e3, rfl, w3⟩ := DataW.trod_int Try.underlying2 hy3
  simp at e0 e1 e2 e3
  subst e0 e1 e2 e3
  simp only [Prod.mk.injEq] at hx
  obtain ⟨rfl, rfl⟩ := hx
  refine ⟨of4 x0 x1 x2 x3, congrArg Value.agg (of4_cells x0 x1 x2 x3), rfl, rfl, fun i hi => ?_⟩
  have : i = 0 ∨ i = 1 ∨ i = 2 ∨ i = 3 := by omega
  rcases this with rfl | rfl | rfl | rfl
  · exact w0
  · exact w1
  · exact w2
  · exact w3
set_option maxRecDepth 100000 in
theorem shut_quat {H : Type} {enc : TypeId × Value → H} {W : World} {base : Nat} {spare : Nat → Bool} {held : Bool} {f : Nat → Int} (hw : ∀ i, i < 4 → (Lit.int .i64 (f i)).wf = true) :
    DataW.Trod enc Try.prog W base spare held 23 (.agg (qfn f)) (quatD f) [] := by
  have w0 := hw 0 (by omega)
  have w1 := hw 1 (by omega)
  have w2 := hw 2 (by omega)
  have w3 := hw 3 (by omega)
  have c1 : Try.prog.cellsOf 23 = 4 := by kernel_rfl
  have c2 : Try.prog.cellsOf 2 = 1 := by kernel_rfl
  unfold qfn quatD
  exact ⟨2, by simp [DataW.trod, Value.cells, Try.underlying23, Try.underlying2, c1, c2, w0, w1, w2, w3, show List.range 4 = [0, 1, 2, 3] from rfl]⟩
end Go.Proofs.Ytcgpcehdeihalaa
