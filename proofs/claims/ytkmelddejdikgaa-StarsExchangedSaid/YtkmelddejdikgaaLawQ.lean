/-
  Vectors turned by a quaternion, in the package and in the specification. What the statements on quaternions ask for first, and the equality of quaternions. A quaternion of four numbers as a row's argument: opened and shut.
-/
import Derived.Test.YtkmelddejdikgaaQuatE
import Derived.Test.YtkmelddejdikgaaVecO
import Derived.Test.YtkmelddejdikgaaLawVec
import Derived.Test.YtkmelddejdikgaaFrameV
import Derived.Test.YtkmelddejdikgaaQEq
import Derived.Laws.IdiomArrays
import Derived.WalkKit
import Derived.ProofKit
import Derived.OpenShut
import Derived.ShutString
import Derived.ChangeOld
import Derived.Below
set_option linter.unusedSimpArgs false
set_option linter.unusedVariables false
namespace Go.Proofs.Ytkmelddejdikgaa
open Go.RowKit PM Dt
def qbackF (f v : Nat → Int) : Nat → Int := if validQ f then vbackF (qmatX f) v else fun _ => 0
def qbackE (f v : Nat → Int) : Int := if validQ f then vbackE (qmatX f) v else 2
set_option maxRecDepth 100000 in
set_option maxHeartbeats 4000000 in
theorem qback_any (f v : Nat → Int) (w : World) (hI : ∀ i, i < 4 → I64 (f i)) : Calls Try.prog 68 #[.agg (qfn f), .agg (vfn v)] w fun e w' => e = .returned (.tuple #[.agg (vfn (qbackF f v)), .int .i64 (qbackE f v)]) ∧ Below w.heap.size w w' := by
  have M := Lib.hid (fun w => qmat_any f w hI)
  have AP := Lib.hid (fun w => vback_any (qmatX f) v w)
  unfold qmatF qmatE at M
  unfold qbackF qbackE
  obtain ⟨bv, hv⟩ : ∃ b, validQ f = b := ⟨_, rfl⟩
  rw [hv] at M ⊢
  clear hv hI
  generalize vbackF (qmatX f) v = F at *
  generalize vbackE (qmatX f) v = E at *
  generalize qmatX f = X at *
  cases bv
  · replace M : Hid (∀ w, Calls Try.prog 106 #[.agg (qfn f)] w fun e w' => e = .returned (.tuple #[.agg (mfn fun _ => 0), .int .i64 2]) ∧ Below w.heap.size w w') := M
    go_enter Try.func68, Try.ntmps68
    go_upto_region 1 with (fail)
    rw [zero_vec]
    have p : blk (((w.alloc (.cells (qfn f) 23)).alloc (.cells (vfn v) 31)).alloc (.cells (vfn fun _ => 0) 31)) w.heap.size (qfn f) 23 := ((blk.new _ _ _).alloc _).alloc _
    have q : blk (((w.alloc (.cells (qfn f) 23)).alloc (.cells (vfn v) 31)).alloc (.cells (vfn fun _ => 0) 31)) (w.heap.size + 1) (vfn v) 31 := (blk.new' (by simp)).alloc _
    have r : blk (((w.alloc (.cells (qfn f) 23)).alloc (.cells (vfn v) 31)).alloc (.cells (vfn fun _ => 0) 31)) (w.heap.size + 1 + 1) (vfn fun _ => 0) 31 := blk.new' (by simp)
    have hB : Below w.heap.size w (((w.alloc (.cells (qfn f) 23)).alloc (.cells (vfn v) 31)).alloc (.cells (vfn fun _ => 0) 31)) := by go_grown
    generalize ((w.alloc (.cells (qfn f) 23)).alloc (.cells (vfn v) 31)).alloc (.cells (vfn fun _ => 0) 31) = w0 at *
    go_upto_region 2 with (first | (refine wpList_load_rowG ?hw _ _ rfl _ rfl _ _ _ _ p Try.underlying23 rfl ?hi ?_; (case hw => (first | rfl | (simp [Region.wanted, yielded]; done))); (case hi => (rw [qfn_size]; kernel_rfl))) | (go_at_call 106; with_reducible refine (M.out _).mono ?_; rintro e w1 ⟨rfl, hb⟩; replace hB := hB.trans (hb.mono hB.size); replace p := p.below hb p.lt; replace q := q.below hb q.lt; replace r := r.below hb r.lt; clear hb) | (rw [zero_mat]; refine wpList_store_row rfl _ _ _ rfl _ rfl _ rfl _ _ (blk.new _ _ _) (by rw [mfn_size]; kernel_rfl) (by simp only [mfn_size]) (mfn_one _) ?_))
    have m := (blk.new w1 (mfn fun _ => 0) 168).row (mfn (fun _ => 0))
    have hne : ∀ x, x < w1.heap.size → x ≠ w1.heap.size := fun x hx => Nat.ne_of_lt hx
    replace p := (p.alloc (.cells (mfn fun _ => 0) 168)).rowOther (hne _ p.lt) (mfn (fun _ => 0))
    replace q := (q.alloc (.cells (mfn fun _ => 0) 168)).rowOther (hne _ q.lt) (mfn (fun _ => 0))
    replace r := (r.alloc (.cells (mfn fun _ => 0) 168)).rowOther (hne _ r.lt) (mfn (fun _ => 0))
    replace hB := Below.setRow (hB.alloc hB.size (.cells (mfn fun _ => 0) 168)) (g := w1.heap.size) hB.size (mfn (fun _ => 0))
    clear hne
    generalize (w1.alloc (.cells (mfn fun _ => 0) 168)).setRow w1.heap.size (mfn (fun _ => 0)) = w2 at *
    generalize w1.heap.size = mb at *
    go_wp2_with ((rw [zero_vec]; refine wpList_store_row rfl _ _ _ rfl _ rfl _ rfl _ _ r (by rw [vfn_size]; kernel_rfl) (by simp only [vfn_size]) (vfn_one _) ?_))
    refine bodyPost_ret (results_vec rfl _ _ _ _ _ _ _ rfl (r.row (vfn (fun _ => 0))) Try.underlying31 rfl (by rw [vfn_size]; kernel_rfl)) rfl ?_; refine ⟨?_, Below.setRow hB (by omega) _⟩
    rfl
  · replace M : Hid (∀ w, Calls Try.prog 106 #[.agg (qfn f)] w fun e w' => e = .returned (.tuple #[.agg (mfn X), .int .i64 0]) ∧ Below w.heap.size w w') := M
    go_enter Try.func68, Try.ntmps68
    go_upto_region 1 with (fail)
    rw [zero_vec]
    have p : blk (((w.alloc (.cells (qfn f) 23)).alloc (.cells (vfn v) 31)).alloc (.cells (vfn fun _ => 0) 31)) w.heap.size (qfn f) 23 := ((blk.new _ _ _).alloc _).alloc _
    have q : blk (((w.alloc (.cells (qfn f) 23)).alloc (.cells (vfn v) 31)).alloc (.cells (vfn fun _ => 0) 31)) (w.heap.size + 1) (vfn v) 31 := (blk.new' (by simp)).alloc _
    have r : blk (((w.alloc (.cells (qfn f) 23)).alloc (.cells (vfn v) 31)).alloc (.cells (vfn fun _ => 0) 31)) (w.heap.size + 1 + 1) (vfn fun _ => 0) 31 := blk.new' (by simp)
    have hB : Below w.heap.size w (((w.alloc (.cells (qfn f) 23)).alloc (.cells (vfn v) 31)).alloc (.cells (vfn fun _ => 0) 31)) := by go_grown
    generalize ((w.alloc (.cells (qfn f) 23)).alloc (.cells (vfn v) 31)).alloc (.cells (vfn fun _ => 0) 31) = w0 at *
    go_upto_region 2 with (first | (refine wpList_load_rowG ?hw _ _ rfl _ rfl _ _ _ _ p Try.underlying23 rfl ?hi ?_; (case hw => (first | rfl | (simp [Region.wanted, yielded]; done))); (case hi => (rw [qfn_size]; kernel_rfl))) | (go_at_call 106; with_reducible refine (M.out _).mono ?_; rintro e w1 ⟨rfl, hb⟩; replace hB := hB.trans (hb.mono hB.size); replace p := p.below hb p.lt; replace q := q.below hb q.lt; replace r := r.below hb r.lt; clear hb) | (rw [zero_mat]; refine wpList_store_row rfl _ _ _ rfl _ rfl _ rfl _ _ (blk.new _ _ _) (by rw [mfn_size]; kernel_rfl) (by simp only [mfn_size]) (mfn_one _) ?_))
    have m := (blk.new w1 (mfn fun _ => 0) 168).row (mfn X)
    have hne : ∀ x, x < w1.heap.size → x ≠ w1.heap.size := fun x hx => Nat.ne_of_lt hx
    replace p := (p.alloc (.cells (mfn fun _ => 0) 168)).rowOther (hne _ p.lt) (mfn X)
    replace q := (q.alloc (.cells (mfn fun _ => 0) 168)).rowOther (hne _ q.lt) (mfn X)
    replace r := (r.alloc (.cells (mfn fun _ => 0) 168)).rowOther (hne _ r.lt) (mfn X)
    replace hB := Below.setRow (hB.alloc hB.size (.cells (mfn fun _ => 0) 168)) (g := w1.heap.size) hB.size (mfn X)
    clear hne
    generalize (w1.alloc (.cells (mfn fun _ => 0) 168)).setRow w1.heap.size (mfn X) = w2 at *
    generalize w1.heap.size = mb at *
    go_wp2_with (first | (refine wpList_load_rowG ?hw _ _ rfl _ rfl _ _ _ _ m Try.underlying168 rfl ?hi ?_; (case hw => (first | rfl | (simp [Region.wanted, yielded]; done))); (case hi => (rw [mfn_size]; kernel_rfl))) | (refine wpList_load_rowG ?hw _ _ rfl _ rfl _ _ _ _ q Try.underlying31 rfl ?hi ?_; (case hw => (first | rfl | (simp [Region.wanted, yielded]; done))); (case hi => (rw [vfn_size]; kernel_rfl))) | (go_at_call 128; with_reducible refine (AP.out _).mono ?_; rintro e w3 ⟨rfl, hb⟩; replace hB := hB.trans (hb.mono hB.size); replace r := r.below hb r.lt; clear hb) | (refine wpList_store_row rfl _ _ _ rfl _ rfl _ rfl _ _ r (by rw [vfn_size]; kernel_rfl) (by simp only [vfn_size]) (vfn_one _) ?_))
    refine bodyPost_ret (results_vec rfl _ _ _ _ _ _ _ rfl (r.row (vfn F)) Try.underlying31 rfl (by rw [vfn_size]; kernel_rfl)) rfl ?_; refine ⟨?_, Below.setRow hB (by omega) _⟩
    rfl
end Go.Proofs.Ytkmelddejdikgaa
namespace Go.Proofs.Ytkmelddejdikgaa
open Go.RowKit PM Dt
end Go.Proofs.Ytkmelddejdikgaa
namespace Go.Proofs.Ytkmelddejdikgaa
open Go.ChangeShapes Go.WideShapes Go.ChangeAt Go.RowKit
end Go.Proofs.Ytkmelddejdikgaa
