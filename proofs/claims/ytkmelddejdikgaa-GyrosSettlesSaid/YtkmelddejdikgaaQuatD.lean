/-
  Products of quaternions, in the package and in its specification.
-/
import Derived.Test.YtkmelddejdikgaaQuatC
import Derived.Test.YtkmelddejdikgaaBase
set_option linter.unusedSimpArgs false
set_option linter.unusedVariables false
namespace Go.Proofs.Ytkmelddejdikgaa
open Go.RowKit PM Dt
set_option maxRecDepth 100000 in
set_option maxHeartbeats 2000000 in
theorem quadP_any (x er : Nat → Int) (c1 c2 c3 : Value) (w : World)
    (hf : Hid (∀ i : Nat, i < 4 → ∀ w1, Below w.heap.size w w1 → Calls Try.prog 156 #[.int .i64 i, c1, c2, c3] w1 fun e w' => e = .returned (.tuple #[.int .i64 (x i), .int .i64 (er i)]) ∧ Below w1.heap.size w1 w')) :
    Calls Try.prog 96 #[.func (.func 156) #[] #[c1, c2, c3]] w fun e w' => e = .returned (.agg (qfn x)) ∧ Below w.heap.size w w' := by
  go_enter Try.func96, Try.ntmps96
  go_upto_region 2 with (fail)
  rw [zero_quat]
  have p : blk ((w.alloc (.cells (qfn fun _ => 0) 23)).alloc (.cells (qfn fun _ => 0) 23)) w.heap.size (qfn fun _ => 0) 23 := (blk.new _ _ _).alloc _
  have q : blk ((w.alloc (.cells (qfn fun _ => 0) 23)).alloc (.cells (qfn fun _ => 0) 23)) (w.heap.size + 1) (qfn fun _ => 0) 23 := blk.new' (by simp)
  have hB : Below w.heap.size w ((w.alloc (.cells (qfn fun _ => 0) 23)).alloc (.cells (qfn fun _ => 0) 23)) := by go_grown
  generalize (w.alloc (.cells (qfn fun _ => 0) 23)).alloc (.cells (qfn fun _ => 0) 23) = w0 at *
  go_wp2_with (fail)
  go_loopg [5] 4 (fun g iv wr => ∃ k : Nat, g + k = 4 ∧ iv = .int .i64 k ∧ blk wr w.heap.size (qfn fun _ => 0) 23 ∧ blk wr (w.heap.size + 1) (qfn (pre4 x k)) 23 ∧ Below w.heap.size w wr)
  case atStart => exact ⟨0, rfl, rfl, p, by rw [show qfn (pre4 x 0) = qfn (fun _ => 0) from qfn_congr fun i _ => by simp [pre4]]; exact q, hB⟩
  case round =>
    clear p q hB
    obtain ⟨k, hk, rfl, p, q, hB⟩ := hrel
    by_cases hkn : k < 4
    · have hdk : decide ((k : Int) < 4) = true := decide_eq_true (by omega)
      have hdk' : decide (k < 4) = true := decide_eq_true (by omega)
      have hw3 : IntKind.i64.wrap ((k : Int) + 1) = ((k + 1 : Nat) : Int) := by rw [IntKind.wrap_i64]; omega
      have HC := Lib.hid (hf.out k hkn)
      have hi4 : (k : Int) < 4 := by omega
      go_wp2_with (go_at_call 156; refine (HC.out _ hB).mono ?_; rintro e w1 ⟨rfl, hb⟩; replace hB := hB.trans (hb.mono hB.size); replace p := p.below hb p.lt; replace q := q.below hb q.lt; clear hb; have fz : w1.frozen? ⟨w.heap.size + 1, k, none⟩ = false := q.free _; have cz : w1.cell? ⟨w.heap.size + 1, k, none⟩ = some (.int .i64 (pre4 x k k)) := q.cellIs (qfn_get _ hkn))
      go_roundg (4 - (k + 1))
      case rel =>
        refine ⟨k + 1, by omega, rfl, p.setOther (by simp) _, q.set' (qfn_set hkn ?_ ?_), hB.setCell (by simp) _⟩
        · simp [pre4]
        · intro j hj hne; simp only [pre4]; split <;> split <;> first | rfl | omega
      case measure => omega
    · obtain rfl : k = 4 := by omega
      have e4 : qfn (pre4 x 4) = qfn x := qfn_congr fun i hi => by simp [pre4, hi]
      rw [e4] at q
      go_wp2_with (first | (refine wpList_load_rowG ?hw _ _ rfl _ rfl _ _ _ _ q Try.underlying23 rfl ?hi ?_; (case hw => (first | rfl | (simp [Region.wanted, yielded]; done))); (case hi => (rw [qfn_size]; kernel_rfl))) | (refine wpList_store_row rfl _ _ _ rfl _ rfl _ rfl _ _ p (by rw [qfn_size]; kernel_rfl) (by simp only [qfn_size]) (qfn_one _) ?_))
      refine bodyPost_ret (results_cell_row rfl _ _ _ _ _ _ _ rfl (p.row (qfn x)) Try.underlying23 rfl (by rw [qfn_size]; kernel_rfl)) rfl ?_; refine ⟨?_, Below.setRow hB (by omega) _⟩
      rfl
def qprodF (f g : Nat → Int) : Nat → Int := if okQ f && okQ g then qprX f g else fun _ => 0
def qprodE (f g : Nat → Int) : Int := if okQ f && okQ g then 0 else 2
set_option maxRecDepth 100000 in
set_option maxHeartbeats 4000000 in
theorem qprod_any (f g : Nat → Int) (w : World) : Calls Try.prog 95 #[.agg (qfn f), .agg (qfn g)] w fun e w' => e = .returned (.tuple #[.agg (qfn (qprodF f g)), .int .i64 (qprodE f g)]) ∧ Below w.heap.size w w' := by
  have V1 := Lib.hid (fun w => bounded_any f w)
  have V2 := Lib.hid (fun w => bounded_any g w)
  unfold qprodF qprodE
  obtain ⟨bf, hf⟩ : ∃ b, okQ f = b := ⟨_, rfl⟩
  obtain ⟨bg, hg⟩ : ∃ b, okQ g = b := ⟨_, rfl⟩
  rw [hf] at V1 ⊢
  rw [hg] at V2 ⊢
  have HF := Lib.hid hf
  have HG := Lib.hid hg
  obtain ⟨X, hX⟩ : ∃ X, X = qprX f g := ⟨_, rfl⟩
  rw [← hX]
  have HX0 := Lib.hid hX
  clear hf hg hX
  go_enter Try.func95, Try.ntmps95
  go_upto_region 1 with (fail)
  rw [zero_quat]
  have p : blk (((w.alloc (.cells (qfn f) 23)).alloc (.cells (qfn g) 23)).alloc (.cells (qfn fun _ => 0) 23)) w.heap.size (qfn f) 23 := ((blk.new _ _ _).alloc _).alloc _
  have q : blk (((w.alloc (.cells (qfn f) 23)).alloc (.cells (qfn g) 23)).alloc (.cells (qfn fun _ => 0) 23)) (w.heap.size + 1) (qfn g) 23 := (blk.new' (by simp)).alloc _
  have r : blk (((w.alloc (.cells (qfn f) 23)).alloc (.cells (qfn g) 23)).alloc (.cells (qfn fun _ => 0) 23)) (w.heap.size + 1 + 1) (qfn fun _ => 0) 23 := blk.new' (by simp)
  have hB : Below w.heap.size w (((w.alloc (.cells (qfn f) 23)).alloc (.cells (qfn g) 23)).alloc (.cells (qfn fun _ => 0) 23)) := by go_grown
  generalize ((w.alloc (.cells (qfn f) 23)).alloc (.cells (qfn g) 23)).alloc (.cells (qfn fun _ => 0) 23) = w0 at *
  cases bf
  · go_wp2_with (first
      | (refine wpList_load_rowG ?hw _ _ rfl _ rfl _ _ _ _ p Try.underlying23 rfl ?hi ?_; (case hw => (first | rfl | (simp [Region.wanted, yielded]; done))); (case hi => (rw [qfn_size]; kernel_rfl)))
      | (refine wpList_load_rowG ?hw _ _ rfl _ rfl _ _ _ _ q Try.underlying23 rfl ?hi ?_; (case hw => (first | rfl | (simp [Region.wanted, yielded]; done))); (case hi => (rw [qfn_size]; kernel_rfl)))
      | (go_at_call 124; with_reducible refine (V1.out _).mono ?_; rintro e w1 ⟨rfl, hb⟩; replace hB := hB.trans (hb.mono hB.size); replace p := p.below hb p.lt; replace q := q.below hb q.lt; replace r := r.below hb r.lt; clear hb)
      | (go_at_call 124; with_reducible refine (V2.out _).mono ?_; rintro e w1 ⟨rfl, hb⟩; replace hB := hB.trans (hb.mono hB.size); replace p := p.below hb p.lt; replace q := q.below hb q.lt; replace r := r.below hb r.lt; clear hb)
      | (rw [zero_quat]; refine wpList_store_row rfl _ _ _ rfl _ rfl _ rfl _ _ r (by rw [qfn_size]; kernel_rfl) (by simp only [qfn_size]) (qfn_one _) ?_))
    refine bodyPost_ret (results_vec rfl _ _ _ _ _ _ _ rfl (r.row (qfn (fun _ => 0))) Try.underlying23 rfl (by rw [qfn_size]; kernel_rfl)) rfl ?_; refine ⟨?_, Below.setRow hB (by omega) _⟩
    rfl
  cases bg
  · go_wp2_with (first
      | (refine wpList_load_rowG ?hw _ _ rfl _ rfl _ _ _ _ p Try.underlying23 rfl ?hi ?_; (case hw => (first | rfl | (simp [Region.wanted, yielded]; done))); (case hi => (rw [qfn_size]; kernel_rfl)))
      | (refine wpList_load_rowG ?hw _ _ rfl _ rfl _ _ _ _ q Try.underlying23 rfl ?hi ?_; (case hw => (first | rfl | (simp [Region.wanted, yielded]; done))); (case hi => (rw [qfn_size]; kernel_rfl)))
      | (go_at_call 124; with_reducible refine (V1.out _).mono ?_; rintro e w1 ⟨rfl, hb⟩; replace hB := hB.trans (hb.mono hB.size); replace p := p.below hb p.lt; replace q := q.below hb q.lt; replace r := r.below hb r.lt; clear hb)
      | (go_at_call 124; with_reducible refine (V2.out _).mono ?_; rintro e w1 ⟨rfl, hb⟩; replace hB := hB.trans (hb.mono hB.size); replace p := p.below hb p.lt; replace q := q.below hb q.lt; replace r := r.below hb r.lt; clear hb)
      | (rw [zero_quat]; refine wpList_store_row rfl _ _ _ rfl _ rfl _ rfl _ _ r (by rw [qfn_size]; kernel_rfl) (by simp only [qfn_size]) (qfn_one _) ?_))
    refine bodyPost_ret (results_vec rfl _ _ _ _ _ _ _ rfl (r.row (qfn (fun _ => 0))) Try.underlying23 rfl (by rw [qfn_size]; kernel_rfl)) rfl ?_; refine ⟨?_, Below.setRow hB (by omega) _⟩
    rfl
  have HP := Lib.hid (fun s b c w hs p q i hi => qprC_any f g s b c w HF.out HG.out hs p q i hi)
  rw [← HX0.out] at HP
  go_upto_region 4 with (first
      | (refine wpList_load_rowG ?hw _ _ rfl _ rfl _ _ _ _ p Try.underlying23 rfl ?hi ?_; (case hw => (first | rfl | (simp [Region.wanted, yielded]; done))); (case hi => (rw [qfn_size]; kernel_rfl)))
      | (refine wpList_load_rowG ?hw _ _ rfl _ rfl _ _ _ _ q Try.underlying23 rfl ?hi ?_; (case hw => (first | rfl | (simp [Region.wanted, yielded]; done))); (case hi => (rw [qfn_size]; kernel_rfl)))
      | (go_at_call 124; with_reducible refine (V1.out _).mono ?_; rintro e w1 ⟨rfl, hb⟩; replace hB := hB.trans (hb.mono hB.size); replace p := p.below hb p.lt; replace q := q.below hb q.lt; replace r := r.below hb r.lt; clear hb)
      | (go_at_call 124; with_reducible refine (V2.out _).mono ?_; rintro e w1 ⟨rfl, hb⟩; replace hB := hB.trans (hb.mono hB.size); replace p := p.below hb p.lt; replace q := q.below hb q.lt; replace r := r.below hb r.lt; clear hb)
      | (refine wpList_store_row rfl _ _ _ rfl _ rfl sgnA (by rw [sgnA_lit]; rfl) _ _ (blk.new _ _ _) (by rw [sgnA_size]; kernel_rfl) (by rw [sgnA_size]; rfl) sgnA_one ?_))
  have s := (blk.new w1 #[.int .i64 0, .int .i64 0, .int .i64 0, .int .i64 0, .int .i64 0, .int .i64 0, .int .i64 0, .int .i64 0, .int .i64 0, .int .i64 0, .int .i64 0, .int .i64 0, .int .i64 0, .int .i64 0, .int .i64 0, .int .i64 0] 38).row sgnA
  have hne : ∀ x, x < w1.heap.size → x ≠ w1.heap.size := fun x hx => Nat.ne_of_lt hx
  replace p := (p.alloc (.cells #[.int .i64 0, .int .i64 0, .int .i64 0, .int .i64 0, .int .i64 0, .int .i64 0, .int .i64 0, .int .i64 0, .int .i64 0, .int .i64 0, .int .i64 0, .int .i64 0, .int .i64 0, .int .i64 0, .int .i64 0, .int .i64 0] 38)).rowOther (hne _ p.lt) sgnA
  replace q := (q.alloc (.cells #[.int .i64 0, .int .i64 0, .int .i64 0, .int .i64 0, .int .i64 0, .int .i64 0, .int .i64 0, .int .i64 0, .int .i64 0, .int .i64 0, .int .i64 0, .int .i64 0, .int .i64 0, .int .i64 0, .int .i64 0, .int .i64 0] 38)).rowOther (hne _ q.lt) sgnA
  replace r := (r.alloc (.cells #[.int .i64 0, .int .i64 0, .int .i64 0, .int .i64 0, .int .i64 0, .int .i64 0, .int .i64 0, .int .i64 0, .int .i64 0, .int .i64 0, .int .i64 0, .int .i64 0, .int .i64 0, .int .i64 0, .int .i64 0, .int .i64 0] 38)).rowOther (hne _ r.lt) sgnA
  replace hB := Below.setRow (hB.alloc hB.size (.cells #[.int .i64 0, .int .i64 0, .int .i64 0, .int .i64 0, .int .i64 0, .int .i64 0, .int .i64 0, .int .i64 0, .int .i64 0, .int .i64 0, .int .i64 0, .int .i64 0, .int .i64 0, .int .i64 0, .int .i64 0, .int .i64 0] 38)) (g := w1.heap.size) hB.size sgnA
  clear hne
  generalize (w1.alloc (.cells #[.int .i64 0, .int .i64 0, .int .i64 0, .int .i64 0, .int .i64 0, .int .i64 0, .int .i64 0, .int .i64 0, .int .i64 0, .int .i64 0, .int .i64 0, .int .i64 0, .int .i64 0, .int .i64 0, .int .i64 0, .int .i64 0] 38)).setRow w1.heap.size sgnA = w2 at *
  generalize w1.heap.size = sb at *
  go_wp2_with (first
      | (go_at_call 96; refine (quadP_any X (fun _ => 0) _ _ _ _ (fun i hi wx hx => HP.out _ _ _ _ (s.below hx s.lt) (p.below hx p.lt) (q.below hx q.lt) i hi)).mono ?_; rintro e w3 ⟨rfl, hb⟩; replace hB := hB.trans (hb.mono hB.size); replace r := r.below hb r.lt; clear hb)
      | (refine wpList_store_row rfl _ _ _ rfl _ rfl _ rfl _ _ r (by rw [qfn_size]; kernel_rfl) (by simp only [qfn_size]) (qfn_one _) ?_))
  refine bodyPost_ret (results_vec rfl _ _ _ _ _ _ _ rfl (r.row (qfn X)) Try.underlying23 rfl (by rw [qfn_size]; kernel_rfl)) rfl ?_; refine ⟨?_, Below.setRow hB (by omega) _⟩
  rfl
end Go.Proofs.Ytkmelddejdikgaa
