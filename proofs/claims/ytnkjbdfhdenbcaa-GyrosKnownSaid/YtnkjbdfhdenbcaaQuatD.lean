/-
  Products of quaternions, in the package and in its specification.
-/
import Derived.Test.YtnkjbdfhdenbcaaQuatC
import Derived.Test.YtnkjbdfhdenbcaaBase
set_option linter.unusedSimpArgs false
set_option linter.unusedVariables false
namespace Go.Proofs.Ytnkjbdfhdenbcaa
open Go.RowKit PM Dt
set_option maxRecDepth 100000 in
set_option maxHeartbeats 2000000 in
theorem quadP_any (x er : Nat → Int) (c1 c2 c3 : Value) (w : World)
    (hf : Hid (∀ i : Nat, i < 4 → ∀ w1, Below w.heap.size w w1 → Calls Try.prog 121 #[.int .i64 i, c1, c2, c3] w1 fun e w' => e = .returned (.tuple #[.int .i64 (x i), .int .i64 (er i)]) ∧ Below w1.heap.size w1 w')) :
    Calls Try.prog 88 #[.func (.func 121) #[] #[c1, c2, c3]] w fun e w' => e = .returned (.agg (qfn x)) ∧ Below w.heap.size w w' := by
  go_enter Try.func88, Try.ntmps88
  go_upto_region 2 with (fail)
  rw [zero_quat]
  have p : blk ((w.alloc (.cells (qfn fun _ => 0) 46)).alloc (.cells (qfn fun _ => 0) 46)) w.heap.size (qfn fun _ => 0) 46 := (blk.new _ _ _).alloc _
  have q : blk ((w.alloc (.cells (qfn fun _ => 0) 46)).alloc (.cells (qfn fun _ => 0) 46)) (w.heap.size + 1) (qfn fun _ => 0) 46 := blk.new' (by simp)
  have hB : Below w.heap.size w ((w.alloc (.cells (qfn fun _ => 0) 46)).alloc (.cells (qfn fun _ => 0) 46)) := by go_grown
  generalize (w.alloc (.cells (qfn fun _ => 0) 46)).alloc (.cells (qfn fun _ => 0) 46) = w0 at *
  go_wp2_with (fail)
  go_loopg [5] 4 (fun g iv wr => ∃ k : Nat, g + k = 4 ∧ iv = .int .i64 k ∧ blk wr w.heap.size (qfn fun _ => 0) 46 ∧ blk wr (w.heap.size + 1) (qfn (pre4 x k)) 46 ∧ Below w.heap.size w wr)
  case atStart => exact ⟨0, rfl, rfl, p, by rw [show qfn (pre4 x 0) = qfn (fun _ => 0) from qfn_congr fun i _ => by simp [pre4]]; exact q, hB⟩
  case round =>
    clear p q hB
    obtain ⟨k, hk, rfl, p, q, hB⟩ := hrel
    by_cases hkn : k < 4
    · have hdk : decide ((k : Int) < 4) = true := decide_eq_true (by omega)
      have hdk' : decide (k < 4) = true := decide_eq_true (by omega)
      have hw3 : IntKind.i64.wrap ((k : Int) + 1) = ((k + 1 : Nat) : Int) := by rw [IntKind.wrap_i64]; omega
      have HC := Lib.hid (hf.out k hkn)
      have hi4 : (k : Int) < 4 := by omega
      go_wp2_with (go_at_call 121; refine (HC.out _ hB).mono ?_; rintro e w1 ⟨rfl, hb⟩; replace hB := hB.trans (hb.mono hB.size); replace p := p.below hb p.lt; replace q := q.below hb q.lt; clear hb; have fz : w1.frozen? ⟨w.heap.size + 1, k, none⟩ = false := q.free _; have cz : w1.cell? ⟨w.heap.size + 1, k, none⟩ = some (.int .i64 (pre4 x k k)) := q.cellIs (qfn_get _ hkn))
      go_roundg (4 - (k + 1))
      case rel =>
        refine ⟨k + 1, by omega, rfl, p.setOther (by simp) _, q.set' (qfn_set hkn ?_ ?_), hB.setCell (by simp) _⟩
        · simp [pre4]
        · intro j hj hne; simp only [pre4]; split <;> split <;> first | rfl | omega
      case measure => omega
    · obtain rfl : k = 4 := by omega
      have e4 : qfn (pre4 x 4) = qfn x := qfn_congr fun i hi => by simp [pre4, hi]
      rw [e4] at q
      go_wp2_with (first | (refine wpList_load_rowG ?hw _ _ rfl _ rfl _ _ _ _ q Try.underlying46 rfl ?hi ?_; (case hw => (first | rfl | (simp [Region.wanted, yielded]; done))); (case hi => (rw [qfn_size]; kernel_rfl))) | (refine wpList_store_row rfl _ _ _ rfl _ rfl _ rfl _ _ p (by rw [qfn_size]; kernel_rfl) (by simp only [qfn_size]) (qfn_one _) ?_))
      refine bodyPost_ret (results_cell_row rfl _ _ _ _ _ _ _ rfl (p.row (qfn x)) Try.underlying46 rfl (by rw [qfn_size]; kernel_rfl)) rfl ?_; refine ⟨?_, Below.setRow hB (by omega) _⟩
      rfl
def qprodF (f g : Nat → Int) : Nat → Int := if okQ f && okQ g then qprX f g else fun _ => 0
def qprodE (f g : Nat → Int) : Int := if okQ f && okQ g then 0 else 2
theorem sum_any (xs ys : List Int) (v u : Value) (w : World) (hv : Ints w v xs) (hu : Ints w u ys) (hx : ∀ k, k < xs.length → I64 (xs.getD k 0)) (hy : ∀ k, k < ys.length → I64 (ys.getD k 0)) :
    Calls Try.prog 153 #[v, u] w fun e w' => e = .returned (.int .i64 (dotV xs ys)) ∧ Below w.heap.size w w' := by
  have H := Lib.hid (rdot_any xs ys v u w hv hu hx hy)
  generalize dotV xs ys = X at *
  generalize dotE xs ys = E at *
  clear hv hu hx hy
  go_enter Try.func153, Try.ntmps153
  go_wp2_with (go_at_call 166; refine H.out.mono ?_; rintro e w1 ⟨rfl, hB⟩)
  go_ret
  exact ⟨rfl, hB⟩
theorem sum4_any (f g : Nat → Int) (b c : Nat) (w : World) (t : TypeId) (hf : okQ f = true) (hg : okQ g = true) (p : blk w b (qfn f) t) (q : blk w c (qfn g) t) :
    Calls Try.prog 153 #[.slice (some ⟨b, 0, none⟩) 4 4, .slice (some ⟨c, 0, none⟩) 4 4] w fun e w' => e = .returned (.int .i64 (rnd (d4 f g))) ∧ Below w.heap.size w w' :=
  (sum_any [f 0, f 1, f 2, f 3] [g 0, g 1, g 2, g 3] _ _ w (ints4 p) (ints4 q) (list_I4 (okQ_I hf)) (list_I4 (okQ_I hg))).mono fun e w' h => ⟨h.1.trans (by rw [(d4_fit hf hg).1]), h.2⟩
set_option maxRecDepth 100000 in
set_option maxHeartbeats 4000000 in
theorem qprod_any (f g : Nat → Int) (w : World) : Calls Try.prog 70 #[.agg (qfn f), .agg (qfn g)] w fun e w' => e = .returned (.tuple #[.agg (qfn (qprodF f g)), .int .i64 (qprodE f g)]) ∧ Below w.heap.size w w' := by
  have V1 := Lib.hid (fun w => bounded_any f w)
  have V2 := Lib.hid (fun w => bounded_any g w)
  unfold qprodF qprodE
  obtain ⟨bf, hf⟩ : ∃ b, okQ f = b := ⟨_, rfl⟩
  obtain ⟨bg, hg⟩ : ∃ b, okQ g = b := ⟨_, rfl⟩
  rw [hf] at V1 ⊢
  rw [hg] at V2 ⊢
  have HF := Lib.hid hf
  have HG := Lib.hid hg
  obtain ⟨X, hX⟩ : ∃ X, X = qprX f g := ⟨_, rfl⟩
  rw [← hX]
  have HX0 := Lib.hid hX
  clear hf hg hX
  go_enter Try.func70, Try.ntmps70
  go_upto_region 1 with (fail)
  rw [zero_quat]
  have p : blk (((w.alloc (.cells (qfn f) 46)).alloc (.cells (qfn g) 46)).alloc (.cells (qfn fun _ => 0) 46)) w.heap.size (qfn f) 46 := ((blk.new _ _ _).alloc _).alloc _
  have q : blk (((w.alloc (.cells (qfn f) 46)).alloc (.cells (qfn g) 46)).alloc (.cells (qfn fun _ => 0) 46)) (w.heap.size + 1) (qfn g) 46 := (blk.new' (by simp)).alloc _
  have r : blk (((w.alloc (.cells (qfn f) 46)).alloc (.cells (qfn g) 46)).alloc (.cells (qfn fun _ => 0) 46)) (w.heap.size + 1 + 1) (qfn fun _ => 0) 46 := blk.new' (by simp)
  have hB : Below w.heap.size w (((w.alloc (.cells (qfn f) 46)).alloc (.cells (qfn g) 46)).alloc (.cells (qfn fun _ => 0) 46)) := by go_grown
  generalize ((w.alloc (.cells (qfn f) 46)).alloc (.cells (qfn g) 46)).alloc (.cells (qfn fun _ => 0) 46) = w0 at *
  cases bf
  · go_wp2_with (first
      | (refine wpList_load_rowG ?hw _ _ rfl _ rfl _ _ _ _ p Try.underlying46 rfl ?hi ?_; (case hw => (first | rfl | (simp [Region.wanted, yielded]; done))); (case hi => (rw [qfn_size]; kernel_rfl)))
      | (refine wpList_load_rowG ?hw _ _ rfl _ rfl _ _ _ _ q Try.underlying46 rfl ?hi ?_; (case hw => (first | rfl | (simp [Region.wanted, yielded]; done))); (case hi => (rw [qfn_size]; kernel_rfl)))
      | (go_at_call 69; with_reducible refine (V1.out _).mono ?_; rintro e w1 ⟨rfl, hb⟩; replace hB := hB.trans (hb.mono hB.size); replace p := p.below hb p.lt; replace q := q.below hb q.lt; replace r := r.below hb r.lt; clear hb)
      | (go_at_call 69; with_reducible refine (V2.out _).mono ?_; rintro e w1 ⟨rfl, hb⟩; replace hB := hB.trans (hb.mono hB.size); replace p := p.below hb p.lt; replace q := q.below hb q.lt; replace r := r.below hb r.lt; clear hb)
      | (rw [zero_quat]; refine wpList_store_row rfl _ _ _ rfl _ rfl _ rfl _ _ r (by rw [qfn_size]; kernel_rfl) (by simp only [qfn_size]) (qfn_one _) ?_))
    refine bodyPost_ret (results_vec rfl _ _ _ _ _ _ _ rfl (r.row (qfn (fun _ => 0))) Try.underlying46 rfl (by rw [qfn_size]; kernel_rfl)) rfl ?_; refine ⟨?_, Below.setRow hB (by omega) _⟩
    rfl
  cases bg
  · go_wp2_with (first
      | (refine wpList_load_rowG ?hw _ _ rfl _ rfl _ _ _ _ p Try.underlying46 rfl ?hi ?_; (case hw => (first | rfl | (simp [Region.wanted, yielded]; done))); (case hi => (rw [qfn_size]; kernel_rfl)))
      | (refine wpList_load_rowG ?hw _ _ rfl _ rfl _ _ _ _ q Try.underlying46 rfl ?hi ?_; (case hw => (first | rfl | (simp [Region.wanted, yielded]; done))); (case hi => (rw [qfn_size]; kernel_rfl)))
      | (go_at_call 69; with_reducible refine (V1.out _).mono ?_; rintro e w1 ⟨rfl, hb⟩; replace hB := hB.trans (hb.mono hB.size); replace p := p.below hb p.lt; replace q := q.below hb q.lt; replace r := r.below hb r.lt; clear hb)
      | (go_at_call 69; with_reducible refine (V2.out _).mono ?_; rintro e w1 ⟨rfl, hb⟩; replace hB := hB.trans (hb.mono hB.size); replace p := p.below hb p.lt; replace q := q.below hb q.lt; replace r := r.below hb r.lt; clear hb)
      | (rw [zero_quat]; refine wpList_store_row rfl _ _ _ rfl _ rfl _ rfl _ _ r (by rw [qfn_size]; kernel_rfl) (by simp only [qfn_size]) (qfn_one _) ?_))
    refine bodyPost_ret (results_vec rfl _ _ _ _ _ _ _ rfl (r.row (qfn (fun _ => 0))) Try.underlying46 rfl (by rw [qfn_size]; kernel_rfl)) rfl ?_; refine ⟨?_, Below.setRow hB (by omega) _⟩
    rfl
  have HP := Lib.hid (fun s b c w hs p q i hi => qprC_any f g s b c w HF.out HG.out hs p q i hi)
  rw [← HX0.out] at HP
  go_upto_region 4 with (first
      | (refine wpList_load_rowG ?hw _ _ rfl _ rfl _ _ _ _ p Try.underlying46 rfl ?hi ?_; (case hw => (first | rfl | (simp [Region.wanted, yielded]; done))); (case hi => (rw [qfn_size]; kernel_rfl)))
      | (refine wpList_load_rowG ?hw _ _ rfl _ rfl _ _ _ _ q Try.underlying46 rfl ?hi ?_; (case hw => (first | rfl | (simp [Region.wanted, yielded]; done))); (case hi => (rw [qfn_size]; kernel_rfl)))
      | (go_at_call 69; with_reducible refine (V1.out _).mono ?_; rintro e w1 ⟨rfl, hb⟩; replace hB := hB.trans (hb.mono hB.size); replace p := p.below hb p.lt; replace q := q.below hb q.lt; replace r := r.below hb r.lt; clear hb)
      | (go_at_call 69; with_reducible refine (V2.out _).mono ?_; rintro e w1 ⟨rfl, hb⟩; replace hB := hB.trans (hb.mono hB.size); replace p := p.below hb p.lt; replace q := q.below hb q.lt; replace r := r.below hb r.lt; clear hb)
      | (refine wpList_store_row rfl _ _ _ rfl _ rfl sgnA (by rw [sgnA_lit]; rfl) _ _ (blk.new _ _ _) (by rw [sgnA_size]; kernel_rfl) (by rw [sgnA_size]; rfl) sgnA_one ?_))
  have s := (blk.new w1 #[.int .i64 0, .int .i64 0, .int .i64 0, .int .i64 0, .int .i64 0, .int .i64 0, .int .i64 0, .int .i64 0, .int .i64 0, .int .i64 0, .int .i64 0, .int .i64 0, .int .i64 0, .int .i64 0, .int .i64 0, .int .i64 0] 102).row sgnA
  have hne : ∀ x, x < w1.heap.size → x ≠ w1.heap.size := fun x hx => Nat.ne_of_lt hx
  replace p := (p.alloc (.cells #[.int .i64 0, .int .i64 0, .int .i64 0, .int .i64 0, .int .i64 0, .int .i64 0, .int .i64 0, .int .i64 0, .int .i64 0, .int .i64 0, .int .i64 0, .int .i64 0, .int .i64 0, .int .i64 0, .int .i64 0, .int .i64 0] 102)).rowOther (hne _ p.lt) sgnA
  replace q := (q.alloc (.cells #[.int .i64 0, .int .i64 0, .int .i64 0, .int .i64 0, .int .i64 0, .int .i64 0, .int .i64 0, .int .i64 0, .int .i64 0, .int .i64 0, .int .i64 0, .int .i64 0, .int .i64 0, .int .i64 0, .int .i64 0, .int .i64 0] 102)).rowOther (hne _ q.lt) sgnA
  replace r := (r.alloc (.cells #[.int .i64 0, .int .i64 0, .int .i64 0, .int .i64 0, .int .i64 0, .int .i64 0, .int .i64 0, .int .i64 0, .int .i64 0, .int .i64 0, .int .i64 0, .int .i64 0, .int .i64 0, .int .i64 0, .int .i64 0, .int .i64 0] 102)).rowOther (hne _ r.lt) sgnA
  replace hB := Below.setRow (hB.alloc hB.size (.cells #[.int .i64 0, .int .i64 0, .int .i64 0, .int .i64 0, .int .i64 0, .int .i64 0, .int .i64 0, .int .i64 0, .int .i64 0, .int .i64 0, .int .i64 0, .int .i64 0, .int .i64 0, .int .i64 0, .int .i64 0, .int .i64 0] 102)) (g := w1.heap.size) hB.size sgnA
  clear hne
  generalize (w1.alloc (.cells #[.int .i64 0, .int .i64 0, .int .i64 0, .int .i64 0, .int .i64 0, .int .i64 0, .int .i64 0, .int .i64 0, .int .i64 0, .int .i64 0, .int .i64 0, .int .i64 0, .int .i64 0, .int .i64 0, .int .i64 0, .int .i64 0] 102)).setRow w1.heap.size sgnA = w2 at *
  generalize w1.heap.size = sb at *
  go_wp2_with (first
      | (go_at_call 88; refine (quadP_any X (fun _ => 0) _ _ _ _ (fun i hi wx hx => HP.out _ _ _ _ (s.below hx s.lt) (p.below hx p.lt) (q.below hx q.lt) i hi)).mono ?_; rintro e w3 ⟨rfl, hb⟩; replace hB := hB.trans (hb.mono hB.size); replace r := r.below hb r.lt; clear hb)
      | (refine wpList_store_row rfl _ _ _ rfl _ rfl _ rfl _ _ r (by rw [qfn_size]; kernel_rfl) (by simp only [qfn_size]) (qfn_one _) ?_))
  refine bodyPost_ret (results_vec rfl _ _ _ _ _ _ _ rfl (r.row (qfn X)) Try.underlying46 rfl (by rw [qfn_size]; kernel_rfl)) rfl ?_; refine ⟨?_, Below.setRow hB (by omega) _⟩
  rfl
set_option maxRecDepth 100000 in
set_option maxHeartbeats 4000000 in
theorem rqprod_any (f g : Nat → Int) (w : World) : Calls Try.prog 132 #[.agg (qfn f), .agg (qfn g)] w fun e w' => e = .returned (.tuple #[.agg (qfn (qprodF f g)), .int .i64 (qprodE f g)]) ∧ Below w.heap.size w w' := by
  have V1 := Lib.hid (fun w => rbounded_any f w)
  have V2 := Lib.hid (fun w => rbounded_any g w)
  unfold qprodF qprodE
  obtain ⟨bf, hf⟩ : ∃ b, okQ f = b := ⟨_, rfl⟩
  obtain ⟨bg, hg⟩ : ∃ b, okQ g = b := ⟨_, rfl⟩
  rw [hf] at V1 ⊢
  rw [hg] at V2 ⊢
  have HF := Lib.hid hf
  have HG := Lib.hid hg
  obtain ⟨X, hX⟩ : ∃ X, X = qprX f g := ⟨_, rfl⟩
  rw [← hX]
  have HX0 := Lib.hid hX
  clear hf hg hX
  go_enter Try.func132, Try.ntmps132
  go_upto_region 1 with (fail)
  rw [zero_quat]
  have p : blk (((w.alloc (.cells (qfn f) 46)).alloc (.cells (qfn g) 46)).alloc (.cells (qfn fun _ => 0) 46)) w.heap.size (qfn f) 46 := ((blk.new _ _ _).alloc _).alloc _
  have q : blk (((w.alloc (.cells (qfn f) 46)).alloc (.cells (qfn g) 46)).alloc (.cells (qfn fun _ => 0) 46)) (w.heap.size + 1) (qfn g) 46 := (blk.new' (by simp)).alloc _
  have r : blk (((w.alloc (.cells (qfn f) 46)).alloc (.cells (qfn g) 46)).alloc (.cells (qfn fun _ => 0) 46)) (w.heap.size + 1 + 1) (qfn fun _ => 0) 46 := blk.new' (by simp)
  have hB : Below w.heap.size w (((w.alloc (.cells (qfn f) 46)).alloc (.cells (qfn g) 46)).alloc (.cells (qfn fun _ => 0) 46)) := by go_grown
  generalize ((w.alloc (.cells (qfn f) 46)).alloc (.cells (qfn g) 46)).alloc (.cells (qfn fun _ => 0) 46) = w0 at *
  cases bf
  · go_wp2_with (first
      | (refine wpList_load_rowG ?hw _ _ rfl _ rfl _ _ _ _ p Try.underlying46 rfl ?hi ?_; (case hw => (first | rfl | (simp [Region.wanted, yielded]; done))); (case hi => (rw [qfn_size]; kernel_rfl)))
      | (refine wpList_load_rowG ?hw _ _ rfl _ rfl _ _ _ _ q Try.underlying46 rfl ?hi ?_; (case hw => (first | rfl | (simp [Region.wanted, yielded]; done))); (case hi => (rw [qfn_size]; kernel_rfl)))
      | (go_at_call 130; with_reducible refine (V1.out _).mono ?_; rintro e w1 ⟨rfl, hb⟩; replace hB := hB.trans (hb.mono hB.size); replace p := p.below hb p.lt; replace q := q.below hb q.lt; replace r := r.below hb r.lt; clear hb)
      | (go_at_call 130; with_reducible refine (V2.out _).mono ?_; rintro e w1 ⟨rfl, hb⟩; replace hB := hB.trans (hb.mono hB.size); replace p := p.below hb p.lt; replace q := q.below hb q.lt; replace r := r.below hb r.lt; clear hb)
      | (rw [zero_quat]; refine wpList_store_row rfl _ _ _ rfl _ rfl _ rfl _ _ r (by rw [qfn_size]; kernel_rfl) (by simp only [qfn_size]) (qfn_one _) ?_))
    refine bodyPost_ret (results_vec rfl _ _ _ _ _ _ _ rfl (r.row (qfn (fun _ => 0))) Try.underlying46 rfl (by rw [qfn_size]; kernel_rfl)) rfl ?_; refine ⟨?_, Below.setRow hB (by omega) _⟩
    rfl
  cases bg
  · go_wp2_with (first
      | (refine wpList_load_rowG ?hw _ _ rfl _ rfl _ _ _ _ p Try.underlying46 rfl ?hi ?_; (case hw => (first | rfl | (simp [Region.wanted, yielded]; done))); (case hi => (rw [qfn_size]; kernel_rfl)))
      | (refine wpList_load_rowG ?hw _ _ rfl _ rfl _ _ _ _ q Try.underlying46 rfl ?hi ?_; (case hw => (first | rfl | (simp [Region.wanted, yielded]; done))); (case hi => (rw [qfn_size]; kernel_rfl)))
      | (go_at_call 130; with_reducible refine (V1.out _).mono ?_; rintro e w1 ⟨rfl, hb⟩; replace hB := hB.trans (hb.mono hB.size); replace p := p.below hb p.lt; replace q := q.below hb q.lt; replace r := r.below hb r.lt; clear hb)
      | (go_at_call 130; with_reducible refine (V2.out _).mono ?_; rintro e w1 ⟨rfl, hb⟩; replace hB := hB.trans (hb.mono hB.size); replace p := p.below hb p.lt; replace q := q.below hb q.lt; replace r := r.below hb r.lt; clear hb)
      | (rw [zero_quat]; refine wpList_store_row rfl _ _ _ rfl _ rfl _ rfl _ _ r (by rw [qfn_size]; kernel_rfl) (by simp only [qfn_size]) (qfn_one _) ?_))
    refine bodyPost_ret (results_vec rfl _ _ _ _ _ _ _ rfl (r.row (qfn (fun _ => 0))) Try.underlying46 rfl (by rw [qfn_size]; kernel_rfl)) rfl ?_; refine ⟨?_, Below.setRow hB (by omega) _⟩
    rfl
  have hf := (okQ_iff f).1 HF.out
  have hg := (okQ_iff g).1 HG.out
  have hi1 : IntKind.i64.wrap (-f 1) = -f 1 := by have := (vb_iff _).1 (hf 1 (by omega)); rw [IntKind.wrap_i64]; omega
  have hi2 : IntKind.i64.wrap (-f 2) = -f 2 := by have := (vb_iff _).1 (hf 2 (by omega)); rw [IntKind.wrap_i64]; omega
  have hi3 : IntKind.i64.wrap (-f 3) = -f 3 := by have := (vb_iff _).1 (hf 3 (by omega)); rw [IntKind.wrap_i64]; omega
  have S0 : Hid (∀ b c w, blk w b #[.int .i64 (f 0), .int .i64 (-f 1), .int .i64 (-f 2), .int .i64 (-f 3)] 2 → blk w c #[.int .i64 (g 0), .int .i64 (g 1), .int .i64 (g 2), .int .i64 (g 3)] 2 → Calls Try.prog 153 #[.slice (some ⟨b, 0, none⟩) 4 4, .slice (some ⟨c, 0, none⟩) 4 4] w fun e w' => e = .returned (.int .i64 (qprX f g 0)) ∧ Below w.heap.size w w') := fun b c w h1 h2 => sum4_any (prL f 0) (prM g 0) b c w 2 (prL_ok HF.out (by omega)) (prM_ok HG.out (by omega)) (by rw [qfn_lit]; exact h1) (by rw [qfn_lit]; exact h2)
  have S1 : Hid (∀ b c w, blk w b #[.int .i64 (f 0), .int .i64 (f 1), .int .i64 (f 2), .int .i64 (-f 3)] 2 → blk w c #[.int .i64 (g 1), .int .i64 (g 0), .int .i64 (g 3), .int .i64 (g 2)] 2 → Calls Try.prog 153 #[.slice (some ⟨b, 0, none⟩) 4 4, .slice (some ⟨c, 0, none⟩) 4 4] w fun e w' => e = .returned (.int .i64 (qprX f g 1)) ∧ Below w.heap.size w w') := fun b c w h1 h2 => sum4_any (prL f 1) (prM g 1) b c w 2 (prL_ok HF.out (by omega)) (prM_ok HG.out (by omega)) (by rw [qfn_lit]; exact h1) (by rw [qfn_lit]; exact h2)
  have S2 : Hid (∀ b c w, blk w b #[.int .i64 (f 0), .int .i64 (-f 1), .int .i64 (f 2), .int .i64 (f 3)] 2 → blk w c #[.int .i64 (g 2), .int .i64 (g 3), .int .i64 (g 0), .int .i64 (g 1)] 2 → Calls Try.prog 153 #[.slice (some ⟨b, 0, none⟩) 4 4, .slice (some ⟨c, 0, none⟩) 4 4] w fun e w' => e = .returned (.int .i64 (qprX f g 2)) ∧ Below w.heap.size w w') := fun b c w h1 h2 => sum4_any (prL f 2) (prM g 2) b c w 2 (prL_ok HF.out (by omega)) (prM_ok HG.out (by omega)) (by rw [qfn_lit]; exact h1) (by rw [qfn_lit]; exact h2)
  have S3 : Hid (∀ b c w, blk w b #[.int .i64 (f 0), .int .i64 (f 1), .int .i64 (-f 2), .int .i64 (f 3)] 2 → blk w c #[.int .i64 (g 3), .int .i64 (g 2), .int .i64 (g 1), .int .i64 (g 0)] 2 → Calls Try.prog 153 #[.slice (some ⟨b, 0, none⟩) 4 4, .slice (some ⟨c, 0, none⟩) 4 4] w fun e w' => e = .returned (.int .i64 (qprX f g 3)) ∧ Below w.heap.size w w') := fun b c w h1 h2 => sum4_any (prL f 3) (prM g 3) b c w 2 (prL_ok HF.out (by omega)) (prM_ok HG.out (by omega)) (by rw [qfn_lit]; exact h1) (by rw [qfn_lit]; exact h2)
  have HX : Hid (#[Value.int .i64 (qprX f g 0), .int .i64 (qprX f g 1), .int .i64 (qprX f g 2), .int .i64 (qprX f g 3)] = qfn (qprX f g)) := (qfn_lit _).symm
  rw [← HX0.out] at S0 S1 S2 S3 HX
  clear hf hg
  go_upto_region 3 with (first
      | (refine wpList_load_rowG ?hw _ _ rfl _ rfl _ _ _ _ p Try.underlying46 rfl ?hi ?_; (case hw => (first | rfl | (simp [Region.wanted, yielded]; done))); (case hi => (rw [qfn_size]; kernel_rfl)))
      | (refine wpList_load_rowG ?hw _ _ rfl _ rfl _ _ _ _ q Try.underlying46 rfl ?hi ?_; (case hw => (first | rfl | (simp [Region.wanted, yielded]; done))); (case hi => (rw [qfn_size]; kernel_rfl)))
      | (go_at_call 130; with_reducible refine (V1.out _).mono ?_; rintro e w1 ⟨rfl, hb⟩; replace hB := hB.trans (hb.mono hB.size); replace p := p.below hb p.lt; replace q := q.below hb q.lt; replace r := r.below hb r.lt; clear hb)
      | (go_at_call 130; with_reducible refine (V2.out _).mono ?_; rintro e w1 ⟨rfl, hb⟩; replace hB := hB.trans (hb.mono hB.size); replace p := p.below hb p.lt; replace q := q.below hb q.lt; replace r := r.below hb r.lt; clear hb))
  refine wp_region_XF 83 (by kernel_rfl) (by kernel_rfl) (fun hfit => ?_)
  replace p := p.drew
  replace q := q.drew
  replace r := r.drew
  replace hB : Below w.heap.size w w1.drew := hB.drew
  generalize w1.drew = wo at *
  refine wpX_takeF hfit 0 (.pointer (some ⟨w.heap.size, 0, none⟩)) rfl rfl (by kernel_rfl) (fun w1 h1 => by go_simp; exact ⟨rfl, Below.refl _ _⟩) ?_
  simp only [Act.put, List.setIfInBounds_toArray, List.set_cons_zero, List.set_cons_succ]
  refine wpX_takeF hfit 1 (.int .i64 (f 0)) rfl rfl (by kernel_rfl) (fun w1 h1 => by have hc : w1.cell? ⟨w.heap.size, 0, none⟩ = some (.int .i64 (f 0)) := (p.below h1 p.lt).cellIs (qfn_get _ (by omega)); go_simp; exact ⟨rfl, Below.refl _ _⟩) ?_
  simp only [Act.put, List.setIfInBounds_toArray, List.set_cons_zero, List.set_cons_succ]
  refine wpX_takeF hfit 2 (.pointer (some ⟨w.heap.size, 1, none⟩)) rfl rfl (by kernel_rfl) (fun w1 h1 => by go_simp; exact ⟨rfl, Below.refl _ _⟩) ?_
  simp only [Act.put, List.setIfInBounds_toArray, List.set_cons_zero, List.set_cons_succ]
  refine wpX_takeF hfit 3 (.int .i64 (f 1)) rfl rfl (by kernel_rfl) (fun w1 h1 => by have hc : w1.cell? ⟨w.heap.size, 1, none⟩ = some (.int .i64 (f 1)) := (p.below h1 p.lt).cellIs (qfn_get _ (by omega)); go_simp; exact ⟨rfl, Below.refl _ _⟩) ?_
  simp only [Act.put, List.setIfInBounds_toArray, List.set_cons_zero, List.set_cons_succ]
  refine wpX_takeF hfit 4 (.int .i64 (-f 1)) rfl rfl (by kernel_rfl) (fun w1 h1 => by go_simp; exact ⟨by first | rfl | (simp only [hi1]; done) | (simp [hi1]; done), Below.refl _ _⟩) ?_
  simp only [Act.put, List.setIfInBounds_toArray, List.set_cons_zero, List.set_cons_succ]
  refine wpX_takeF hfit 5 (.pointer (some ⟨w.heap.size, 2, none⟩)) rfl rfl (by kernel_rfl) (fun w1 h1 => by go_simp; exact ⟨rfl, Below.refl _ _⟩) ?_
  simp only [Act.put, List.setIfInBounds_toArray, List.set_cons_zero, List.set_cons_succ]
  refine wpX_takeF hfit 6 (.int .i64 (f 2)) rfl rfl (by kernel_rfl) (fun w1 h1 => by have hc : w1.cell? ⟨w.heap.size, 2, none⟩ = some (.int .i64 (f 2)) := (p.below h1 p.lt).cellIs (qfn_get _ (by omega)); go_simp; exact ⟨rfl, Below.refl _ _⟩) ?_
  simp only [Act.put, List.setIfInBounds_toArray, List.set_cons_zero, List.set_cons_succ]
  refine wpX_takeF hfit 7 (.int .i64 (-f 2)) rfl rfl (by kernel_rfl) (fun w1 h1 => by go_simp; exact ⟨by first | rfl | (simp only [hi2]; done) | (simp [hi2]; done), Below.refl _ _⟩) ?_
  simp only [Act.put, List.setIfInBounds_toArray, List.set_cons_zero, List.set_cons_succ]
  refine wpX_takeF hfit 8 (.pointer (some ⟨w.heap.size, 3, none⟩)) rfl rfl (by kernel_rfl) (fun w1 h1 => by go_simp; exact ⟨rfl, Below.refl _ _⟩) ?_
  simp only [Act.put, List.setIfInBounds_toArray, List.set_cons_zero, List.set_cons_succ]
  refine wpX_takeF hfit 9 (.int .i64 (f 3)) rfl rfl (by kernel_rfl) (fun w1 h1 => by have hc : w1.cell? ⟨w.heap.size, 3, none⟩ = some (.int .i64 (f 3)) := (p.below h1 p.lt).cellIs (qfn_get _ (by omega)); go_simp; exact ⟨rfl, Below.refl _ _⟩) ?_
  simp only [Act.put, List.setIfInBounds_toArray, List.set_cons_zero, List.set_cons_succ]
  refine wpX_takeF hfit 10 (.int .i64 (-f 3)) rfl rfl (by kernel_rfl) (fun w1 h1 => by go_simp; exact ⟨by first | rfl | (simp only [hi3]; done) | (simp [hi3]; done), Below.refl _ _⟩) ?_
  simp only [Act.put, List.setIfInBounds_toArray, List.set_cons_zero, List.set_cons_succ]
  refine wpX_takeF hfit 12 (.pointer (some ⟨w.heap.size + 1, 0, none⟩)) rfl rfl (by kernel_rfl) (fun w1 h1 => by go_simp; exact ⟨rfl, Below.refl _ _⟩) ?_
  simp only [Act.put, List.setIfInBounds_toArray, List.set_cons_zero, List.set_cons_succ]
  refine wpX_takeF hfit 13 (.int .i64 (g 0)) rfl rfl (by kernel_rfl) (fun w1 h1 => by have hc : w1.cell? ⟨w.heap.size + 1, 0, none⟩ = some (.int .i64 (g 0)) := (q.below h1 q.lt).cellIs (qfn_get _ (by omega)); go_simp; exact ⟨rfl, Below.refl _ _⟩) ?_
  simp only [Act.put, List.setIfInBounds_toArray, List.set_cons_zero, List.set_cons_succ]
  refine wpX_takeF hfit 14 (.pointer (some ⟨w.heap.size + 1, 1, none⟩)) rfl rfl (by kernel_rfl) (fun w1 h1 => by go_simp; exact ⟨rfl, Below.refl _ _⟩) ?_
  simp only [Act.put, List.setIfInBounds_toArray, List.set_cons_zero, List.set_cons_succ]
  refine wpX_takeF hfit 15 (.int .i64 (g 1)) rfl rfl (by kernel_rfl) (fun w1 h1 => by have hc : w1.cell? ⟨w.heap.size + 1, 1, none⟩ = some (.int .i64 (g 1)) := (q.below h1 q.lt).cellIs (qfn_get _ (by omega)); go_simp; exact ⟨rfl, Below.refl _ _⟩) ?_
  simp only [Act.put, List.setIfInBounds_toArray, List.set_cons_zero, List.set_cons_succ]
  refine wpX_takeF hfit 16 (.pointer (some ⟨w.heap.size + 1, 2, none⟩)) rfl rfl (by kernel_rfl) (fun w1 h1 => by go_simp; exact ⟨rfl, Below.refl _ _⟩) ?_
  simp only [Act.put, List.setIfInBounds_toArray, List.set_cons_zero, List.set_cons_succ]
  refine wpX_takeF hfit 17 (.int .i64 (g 2)) rfl rfl (by kernel_rfl) (fun w1 h1 => by have hc : w1.cell? ⟨w.heap.size + 1, 2, none⟩ = some (.int .i64 (g 2)) := (q.below h1 q.lt).cellIs (qfn_get _ (by omega)); go_simp; exact ⟨rfl, Below.refl _ _⟩) ?_
  simp only [Act.put, List.setIfInBounds_toArray, List.set_cons_zero, List.set_cons_succ]
  refine wpX_takeF hfit 18 (.pointer (some ⟨w.heap.size + 1, 3, none⟩)) rfl rfl (by kernel_rfl) (fun w1 h1 => by go_simp; exact ⟨rfl, Below.refl _ _⟩) ?_
  simp only [Act.put, List.setIfInBounds_toArray, List.set_cons_zero, List.set_cons_succ]
  refine wpX_takeF hfit 19 (.int .i64 (g 3)) rfl rfl (by kernel_rfl) (fun w1 h1 => by have hc : w1.cell? ⟨w.heap.size + 1, 3, none⟩ = some (.int .i64 (g 3)) := (q.below h1 q.lt).cellIs (qfn_get _ (by omega)); go_simp; exact ⟨rfl, Below.refl _ _⟩) ?_
  simp only [Act.put, List.setIfInBounds_toArray, List.set_cons_zero, List.set_cons_succ]
  refine wpX_takeF hfit 22 (.pointer (some ⟨w.heap.size, 0, none⟩)) rfl rfl (by kernel_rfl) (fun w1 h1 => by go_simp; exact ⟨rfl, Below.refl _ _⟩) ?_
  simp only [Act.put, List.setIfInBounds_toArray, List.set_cons_zero, List.set_cons_succ]
  refine wpX_takeF hfit 23 (.int .i64 (f 0)) rfl rfl (by kernel_rfl) (fun w1 h1 => by have hc : w1.cell? ⟨w.heap.size, 0, none⟩ = some (.int .i64 (f 0)) := (p.below h1 p.lt).cellIs (qfn_get _ (by omega)); go_simp; exact ⟨rfl, Below.refl _ _⟩) ?_
  simp only [Act.put, List.setIfInBounds_toArray, List.set_cons_zero, List.set_cons_succ]
  refine wpX_takeF hfit 24 (.pointer (some ⟨w.heap.size, 1, none⟩)) rfl rfl (by kernel_rfl) (fun w1 h1 => by go_simp; exact ⟨rfl, Below.refl _ _⟩) ?_
  simp only [Act.put, List.setIfInBounds_toArray, List.set_cons_zero, List.set_cons_succ]
  refine wpX_takeF hfit 25 (.int .i64 (f 1)) rfl rfl (by kernel_rfl) (fun w1 h1 => by have hc : w1.cell? ⟨w.heap.size, 1, none⟩ = some (.int .i64 (f 1)) := (p.below h1 p.lt).cellIs (qfn_get _ (by omega)); go_simp; exact ⟨rfl, Below.refl _ _⟩) ?_
  simp only [Act.put, List.setIfInBounds_toArray, List.set_cons_zero, List.set_cons_succ]
  refine wpX_takeF hfit 26 (.pointer (some ⟨w.heap.size, 2, none⟩)) rfl rfl (by kernel_rfl) (fun w1 h1 => by go_simp; exact ⟨rfl, Below.refl _ _⟩) ?_
  simp only [Act.put, List.setIfInBounds_toArray, List.set_cons_zero, List.set_cons_succ]
  refine wpX_takeF hfit 27 (.int .i64 (f 2)) rfl rfl (by kernel_rfl) (fun w1 h1 => by have hc : w1.cell? ⟨w.heap.size, 2, none⟩ = some (.int .i64 (f 2)) := (p.below h1 p.lt).cellIs (qfn_get _ (by omega)); go_simp; exact ⟨rfl, Below.refl _ _⟩) ?_
  simp only [Act.put, List.setIfInBounds_toArray, List.set_cons_zero, List.set_cons_succ]
  refine wpX_takeF hfit 28 (.pointer (some ⟨w.heap.size, 3, none⟩)) rfl rfl (by kernel_rfl) (fun w1 h1 => by go_simp; exact ⟨rfl, Below.refl _ _⟩) ?_
  simp only [Act.put, List.setIfInBounds_toArray, List.set_cons_zero, List.set_cons_succ]
  refine wpX_takeF hfit 29 (.int .i64 (f 3)) rfl rfl (by kernel_rfl) (fun w1 h1 => by have hc : w1.cell? ⟨w.heap.size, 3, none⟩ = some (.int .i64 (f 3)) := (p.below h1 p.lt).cellIs (qfn_get _ (by omega)); go_simp; exact ⟨rfl, Below.refl _ _⟩) ?_
  simp only [Act.put, List.setIfInBounds_toArray, List.set_cons_zero, List.set_cons_succ]
  refine wpX_takeF hfit 30 (.int .i64 (-f 3)) rfl rfl (by kernel_rfl) (fun w1 h1 => by go_simp; exact ⟨by first | rfl | (simp only [hi3]; done) | (simp [hi3]; done), Below.refl _ _⟩) ?_
  simp only [Act.put, List.setIfInBounds_toArray, List.set_cons_zero, List.set_cons_succ]
  refine wpX_takeF hfit 32 (.pointer (some ⟨w.heap.size + 1, 1, none⟩)) rfl rfl (by kernel_rfl) (fun w1 h1 => by go_simp; exact ⟨rfl, Below.refl _ _⟩) ?_
  simp only [Act.put, List.setIfInBounds_toArray, List.set_cons_zero, List.set_cons_succ]
  refine wpX_takeF hfit 33 (.int .i64 (g 1)) rfl rfl (by kernel_rfl) (fun w1 h1 => by have hc : w1.cell? ⟨w.heap.size + 1, 1, none⟩ = some (.int .i64 (g 1)) := (q.below h1 q.lt).cellIs (qfn_get _ (by omega)); go_simp; exact ⟨rfl, Below.refl _ _⟩) ?_
  simp only [Act.put, List.setIfInBounds_toArray, List.set_cons_zero, List.set_cons_succ]
  refine wpX_takeF hfit 34 (.pointer (some ⟨w.heap.size + 1, 0, none⟩)) rfl rfl (by kernel_rfl) (fun w1 h1 => by go_simp; exact ⟨rfl, Below.refl _ _⟩) ?_
  simp only [Act.put, List.setIfInBounds_toArray, List.set_cons_zero, List.set_cons_succ]
  refine wpX_takeF hfit 35 (.int .i64 (g 0)) rfl rfl (by kernel_rfl) (fun w1 h1 => by have hc : w1.cell? ⟨w.heap.size + 1, 0, none⟩ = some (.int .i64 (g 0)) := (q.below h1 q.lt).cellIs (qfn_get _ (by omega)); go_simp; exact ⟨rfl, Below.refl _ _⟩) ?_
  simp only [Act.put, List.setIfInBounds_toArray, List.set_cons_zero, List.set_cons_succ]
  refine wpX_takeF hfit 36 (.pointer (some ⟨w.heap.size + 1, 3, none⟩)) rfl rfl (by kernel_rfl) (fun w1 h1 => by go_simp; exact ⟨rfl, Below.refl _ _⟩) ?_
  simp only [Act.put, List.setIfInBounds_toArray, List.set_cons_zero, List.set_cons_succ]
  refine wpX_takeF hfit 37 (.int .i64 (g 3)) rfl rfl (by kernel_rfl) (fun w1 h1 => by have hc : w1.cell? ⟨w.heap.size + 1, 3, none⟩ = some (.int .i64 (g 3)) := (q.below h1 q.lt).cellIs (qfn_get _ (by omega)); go_simp; exact ⟨rfl, Below.refl _ _⟩) ?_
  simp only [Act.put, List.setIfInBounds_toArray, List.set_cons_zero, List.set_cons_succ]
  refine wpX_takeF hfit 38 (.pointer (some ⟨w.heap.size + 1, 2, none⟩)) rfl rfl (by kernel_rfl) (fun w1 h1 => by go_simp; exact ⟨rfl, Below.refl _ _⟩) ?_
  simp only [Act.put, List.setIfInBounds_toArray, List.set_cons_zero, List.set_cons_succ]
  refine wpX_takeF hfit 39 (.int .i64 (g 2)) rfl rfl (by kernel_rfl) (fun w1 h1 => by have hc : w1.cell? ⟨w.heap.size + 1, 2, none⟩ = some (.int .i64 (g 2)) := (q.below h1 q.lt).cellIs (qfn_get _ (by omega)); go_simp; exact ⟨rfl, Below.refl _ _⟩) ?_
  simp only [Act.put, List.setIfInBounds_toArray, List.set_cons_zero, List.set_cons_succ]
  refine wpX_takeF hfit 42 (.pointer (some ⟨w.heap.size, 0, none⟩)) rfl rfl (by kernel_rfl) (fun w1 h1 => by go_simp; exact ⟨rfl, Below.refl _ _⟩) ?_
  simp only [Act.put, List.setIfInBounds_toArray, List.set_cons_zero, List.set_cons_succ]
  refine wpX_takeF hfit 43 (.int .i64 (f 0)) rfl rfl (by kernel_rfl) (fun w1 h1 => by have hc : w1.cell? ⟨w.heap.size, 0, none⟩ = some (.int .i64 (f 0)) := (p.below h1 p.lt).cellIs (qfn_get _ (by omega)); go_simp; exact ⟨rfl, Below.refl _ _⟩) ?_
  simp only [Act.put, List.setIfInBounds_toArray, List.set_cons_zero, List.set_cons_succ]
  refine wpX_takeF hfit 44 (.pointer (some ⟨w.heap.size, 1, none⟩)) rfl rfl (by kernel_rfl) (fun w1 h1 => by go_simp; exact ⟨rfl, Below.refl _ _⟩) ?_
  simp only [Act.put, List.setIfInBounds_toArray, List.set_cons_zero, List.set_cons_succ]
  refine wpX_takeF hfit 45 (.int .i64 (f 1)) rfl rfl (by kernel_rfl) (fun w1 h1 => by have hc : w1.cell? ⟨w.heap.size, 1, none⟩ = some (.int .i64 (f 1)) := (p.below h1 p.lt).cellIs (qfn_get _ (by omega)); go_simp; exact ⟨rfl, Below.refl _ _⟩) ?_
  simp only [Act.put, List.setIfInBounds_toArray, List.set_cons_zero, List.set_cons_succ]
  refine wpX_takeF hfit 46 (.int .i64 (-f 1)) rfl rfl (by kernel_rfl) (fun w1 h1 => by go_simp; exact ⟨by first | rfl | (simp only [hi1]; done) | (simp [hi1]; done), Below.refl _ _⟩) ?_
  simp only [Act.put, List.setIfInBounds_toArray, List.set_cons_zero, List.set_cons_succ]
  refine wpX_takeF hfit 47 (.pointer (some ⟨w.heap.size, 2, none⟩)) rfl rfl (by kernel_rfl) (fun w1 h1 => by go_simp; exact ⟨rfl, Below.refl _ _⟩) ?_
  simp only [Act.put, List.setIfInBounds_toArray, List.set_cons_zero, List.set_cons_succ]
  refine wpX_takeF hfit 48 (.int .i64 (f 2)) rfl rfl (by kernel_rfl) (fun w1 h1 => by have hc : w1.cell? ⟨w.heap.size, 2, none⟩ = some (.int .i64 (f 2)) := (p.below h1 p.lt).cellIs (qfn_get _ (by omega)); go_simp; exact ⟨rfl, Below.refl _ _⟩) ?_
  simp only [Act.put, List.setIfInBounds_toArray, List.set_cons_zero, List.set_cons_succ]
  refine wpX_takeF hfit 49 (.pointer (some ⟨w.heap.size, 3, none⟩)) rfl rfl (by kernel_rfl) (fun w1 h1 => by go_simp; exact ⟨rfl, Below.refl _ _⟩) ?_
  simp only [Act.put, List.setIfInBounds_toArray, List.set_cons_zero, List.set_cons_succ]
  refine wpX_takeF hfit 50 (.int .i64 (f 3)) rfl rfl (by kernel_rfl) (fun w1 h1 => by have hc : w1.cell? ⟨w.heap.size, 3, none⟩ = some (.int .i64 (f 3)) := (p.below h1 p.lt).cellIs (qfn_get _ (by omega)); go_simp; exact ⟨rfl, Below.refl _ _⟩) ?_
  simp only [Act.put, List.setIfInBounds_toArray, List.set_cons_zero, List.set_cons_succ]
  refine wpX_takeF hfit 52 (.pointer (some ⟨w.heap.size + 1, 2, none⟩)) rfl rfl (by kernel_rfl) (fun w1 h1 => by go_simp; exact ⟨rfl, Below.refl _ _⟩) ?_
  simp only [Act.put, List.setIfInBounds_toArray, List.set_cons_zero, List.set_cons_succ]
  refine wpX_takeF hfit 53 (.int .i64 (g 2)) rfl rfl (by kernel_rfl) (fun w1 h1 => by have hc : w1.cell? ⟨w.heap.size + 1, 2, none⟩ = some (.int .i64 (g 2)) := (q.below h1 q.lt).cellIs (qfn_get _ (by omega)); go_simp; exact ⟨rfl, Below.refl _ _⟩) ?_
  simp only [Act.put, List.setIfInBounds_toArray, List.set_cons_zero, List.set_cons_succ]
  refine wpX_takeF hfit 54 (.pointer (some ⟨w.heap.size + 1, 3, none⟩)) rfl rfl (by kernel_rfl) (fun w1 h1 => by go_simp; exact ⟨rfl, Below.refl _ _⟩) ?_
  simp only [Act.put, List.setIfInBounds_toArray, List.set_cons_zero, List.set_cons_succ]
  refine wpX_takeF hfit 55 (.int .i64 (g 3)) rfl rfl (by kernel_rfl) (fun w1 h1 => by have hc : w1.cell? ⟨w.heap.size + 1, 3, none⟩ = some (.int .i64 (g 3)) := (q.below h1 q.lt).cellIs (qfn_get _ (by omega)); go_simp; exact ⟨rfl, Below.refl _ _⟩) ?_
  simp only [Act.put, List.setIfInBounds_toArray, List.set_cons_zero, List.set_cons_succ]
  refine wpX_takeF hfit 56 (.pointer (some ⟨w.heap.size + 1, 0, none⟩)) rfl rfl (by kernel_rfl) (fun w1 h1 => by go_simp; exact ⟨rfl, Below.refl _ _⟩) ?_
  simp only [Act.put, List.setIfInBounds_toArray, List.set_cons_zero, List.set_cons_succ]
  refine wpX_takeF hfit 57 (.int .i64 (g 0)) rfl rfl (by kernel_rfl) (fun w1 h1 => by have hc : w1.cell? ⟨w.heap.size + 1, 0, none⟩ = some (.int .i64 (g 0)) := (q.below h1 q.lt).cellIs (qfn_get _ (by omega)); go_simp; exact ⟨rfl, Below.refl _ _⟩) ?_
  simp only [Act.put, List.setIfInBounds_toArray, List.set_cons_zero, List.set_cons_succ]
  refine wpX_takeF hfit 58 (.pointer (some ⟨w.heap.size + 1, 1, none⟩)) rfl rfl (by kernel_rfl) (fun w1 h1 => by go_simp; exact ⟨rfl, Below.refl _ _⟩) ?_
  simp only [Act.put, List.setIfInBounds_toArray, List.set_cons_zero, List.set_cons_succ]
  refine wpX_takeF hfit 59 (.int .i64 (g 1)) rfl rfl (by kernel_rfl) (fun w1 h1 => by have hc : w1.cell? ⟨w.heap.size + 1, 1, none⟩ = some (.int .i64 (g 1)) := (q.below h1 q.lt).cellIs (qfn_get _ (by omega)); go_simp; exact ⟨rfl, Below.refl _ _⟩) ?_
  simp only [Act.put, List.setIfInBounds_toArray, List.set_cons_zero, List.set_cons_succ]
  refine wpX_takeF hfit 62 (.pointer (some ⟨w.heap.size, 0, none⟩)) rfl rfl (by kernel_rfl) (fun w1 h1 => by go_simp; exact ⟨rfl, Below.refl _ _⟩) ?_
  simp only [Act.put, List.setIfInBounds_toArray, List.set_cons_zero, List.set_cons_succ]
  refine wpX_takeF hfit 63 (.int .i64 (f 0)) rfl rfl (by kernel_rfl) (fun w1 h1 => by have hc : w1.cell? ⟨w.heap.size, 0, none⟩ = some (.int .i64 (f 0)) := (p.below h1 p.lt).cellIs (qfn_get _ (by omega)); go_simp; exact ⟨rfl, Below.refl _ _⟩) ?_
  simp only [Act.put, List.setIfInBounds_toArray, List.set_cons_zero, List.set_cons_succ]
  refine wpX_takeF hfit 64 (.pointer (some ⟨w.heap.size, 1, none⟩)) rfl rfl (by kernel_rfl) (fun w1 h1 => by go_simp; exact ⟨rfl, Below.refl _ _⟩) ?_
  simp only [Act.put, List.setIfInBounds_toArray, List.set_cons_zero, List.set_cons_succ]
  refine wpX_takeF hfit 65 (.int .i64 (f 1)) rfl rfl (by kernel_rfl) (fun w1 h1 => by have hc : w1.cell? ⟨w.heap.size, 1, none⟩ = some (.int .i64 (f 1)) := (p.below h1 p.lt).cellIs (qfn_get _ (by omega)); go_simp; exact ⟨rfl, Below.refl _ _⟩) ?_
  simp only [Act.put, List.setIfInBounds_toArray, List.set_cons_zero, List.set_cons_succ]
  refine wpX_takeF hfit 66 (.pointer (some ⟨w.heap.size, 2, none⟩)) rfl rfl (by kernel_rfl) (fun w1 h1 => by go_simp; exact ⟨rfl, Below.refl _ _⟩) ?_
  simp only [Act.put, List.setIfInBounds_toArray, List.set_cons_zero, List.set_cons_succ]
  refine wpX_takeF hfit 67 (.int .i64 (f 2)) rfl rfl (by kernel_rfl) (fun w1 h1 => by have hc : w1.cell? ⟨w.heap.size, 2, none⟩ = some (.int .i64 (f 2)) := (p.below h1 p.lt).cellIs (qfn_get _ (by omega)); go_simp; exact ⟨rfl, Below.refl _ _⟩) ?_
  simp only [Act.put, List.setIfInBounds_toArray, List.set_cons_zero, List.set_cons_succ]
  refine wpX_takeF hfit 68 (.int .i64 (-f 2)) rfl rfl (by kernel_rfl) (fun w1 h1 => by go_simp; exact ⟨by first | rfl | (simp only [hi2]; done) | (simp [hi2]; done), Below.refl _ _⟩) ?_
  simp only [Act.put, List.setIfInBounds_toArray, List.set_cons_zero, List.set_cons_succ]
  refine wpX_takeF hfit 69 (.pointer (some ⟨w.heap.size, 3, none⟩)) rfl rfl (by kernel_rfl) (fun w1 h1 => by go_simp; exact ⟨rfl, Below.refl _ _⟩) ?_
  simp only [Act.put, List.setIfInBounds_toArray, List.set_cons_zero, List.set_cons_succ]
  refine wpX_takeF hfit 70 (.int .i64 (f 3)) rfl rfl (by kernel_rfl) (fun w1 h1 => by have hc : w1.cell? ⟨w.heap.size, 3, none⟩ = some (.int .i64 (f 3)) := (p.below h1 p.lt).cellIs (qfn_get _ (by omega)); go_simp; exact ⟨rfl, Below.refl _ _⟩) ?_
  simp only [Act.put, List.setIfInBounds_toArray, List.set_cons_zero, List.set_cons_succ]
  refine wpX_takeF hfit 72 (.pointer (some ⟨w.heap.size + 1, 3, none⟩)) rfl rfl (by kernel_rfl) (fun w1 h1 => by go_simp; exact ⟨rfl, Below.refl _ _⟩) ?_
  simp only [Act.put, List.setIfInBounds_toArray, List.set_cons_zero, List.set_cons_succ]
  refine wpX_takeF hfit 73 (.int .i64 (g 3)) rfl rfl (by kernel_rfl) (fun w1 h1 => by have hc : w1.cell? ⟨w.heap.size + 1, 3, none⟩ = some (.int .i64 (g 3)) := (q.below h1 q.lt).cellIs (qfn_get _ (by omega)); go_simp; exact ⟨rfl, Below.refl _ _⟩) ?_
  simp only [Act.put, List.setIfInBounds_toArray, List.set_cons_zero, List.set_cons_succ]
  refine wpX_takeF hfit 74 (.pointer (some ⟨w.heap.size + 1, 2, none⟩)) rfl rfl (by kernel_rfl) (fun w1 h1 => by go_simp; exact ⟨rfl, Below.refl _ _⟩) ?_
  simp only [Act.put, List.setIfInBounds_toArray, List.set_cons_zero, List.set_cons_succ]
  refine wpX_takeF hfit 75 (.int .i64 (g 2)) rfl rfl (by kernel_rfl) (fun w1 h1 => by have hc : w1.cell? ⟨w.heap.size + 1, 2, none⟩ = some (.int .i64 (g 2)) := (q.below h1 q.lt).cellIs (qfn_get _ (by omega)); go_simp; exact ⟨rfl, Below.refl _ _⟩) ?_
  simp only [Act.put, List.setIfInBounds_toArray, List.set_cons_zero, List.set_cons_succ]
  refine wpX_takeF hfit 76 (.pointer (some ⟨w.heap.size + 1, 1, none⟩)) rfl rfl (by kernel_rfl) (fun w1 h1 => by go_simp; exact ⟨rfl, Below.refl _ _⟩) ?_
  simp only [Act.put, List.setIfInBounds_toArray, List.set_cons_zero, List.set_cons_succ]
  refine wpX_takeF hfit 77 (.int .i64 (g 1)) rfl rfl (by kernel_rfl) (fun w1 h1 => by have hc : w1.cell? ⟨w.heap.size + 1, 1, none⟩ = some (.int .i64 (g 1)) := (q.below h1 q.lt).cellIs (qfn_get _ (by omega)); go_simp; exact ⟨rfl, Below.refl _ _⟩) ?_
  simp only [Act.put, List.setIfInBounds_toArray, List.set_cons_zero, List.set_cons_succ]
  refine wpX_takeF hfit 78 (.pointer (some ⟨w.heap.size + 1, 0, none⟩)) rfl rfl (by kernel_rfl) (fun w1 h1 => by go_simp; exact ⟨rfl, Below.refl _ _⟩) ?_
  simp only [Act.put, List.setIfInBounds_toArray, List.set_cons_zero, List.set_cons_succ]
  refine wpX_takeF hfit 79 (.int .i64 (g 0)) rfl rfl (by kernel_rfl) (fun w1 h1 => by have hc : w1.cell? ⟨w.heap.size + 1, 0, none⟩ = some (.int .i64 (g 0)) := (q.below h1 q.lt).cellIs (qfn_get _ (by omega)); go_simp; exact ⟨rfl, Below.refl _ _⟩) ?_
  simp only [Act.put, List.setIfInBounds_toArray, List.set_cons_zero, List.set_cons_succ]
  refine wpX_flowD [(11, 26), (20, 35), (21, 36), (31, 46), (40, 55), (41, 56), (51, 66), (60, 75), (61, 76), (71, 86), (80, 95), (81, 96), (82, 97)] (factAt [(11, .sl #[.int .i64 (f 0), .int .i64 (-f 1), .int .i64 (-f 2), .int .i64 (-f 3)] 2 4), (20, .sl #[.int .i64 (g 0), .int .i64 (g 1), .int .i64 (g 2), .int .i64 (g 3)] 2 4), (21, .val (.int .i64 (X 0))), (31, .sl #[.int .i64 (f 0), .int .i64 (f 1), .int .i64 (f 2), .int .i64 (-f 3)] 2 4), (40, .sl #[.int .i64 (g 1), .int .i64 (g 0), .int .i64 (g 3), .int .i64 (g 2)] 2 4), (41, .val (.int .i64 (X 1))), (51, .sl #[.int .i64 (f 0), .int .i64 (-f 1), .int .i64 (f 2), .int .i64 (f 3)] 2 4), (60, .sl #[.int .i64 (g 2), .int .i64 (g 3), .int .i64 (g 0), .int .i64 (g 1)] 2 4), (61, .val (.int .i64 (X 2))), (71, .sl #[.int .i64 (f 0), .int .i64 (f 1), .int .i64 (-f 2), .int .i64 (f 3)] 2 4), (80, .sl #[.int .i64 (g 3), .int .i64 (g 2), .int .i64 (g 1), .int .i64 (g 0)] 2 4), (81, .val (.int .i64 (X 3))), (82, .val (.agg #[.int .i64 (X 0), .int .i64 (X 1), .int .i64 (X 2), .int .i64 (X 3)]))]) (by kernel_rfl) (by kernel_rfl) (factAt_mono _) (fun A hA => ?_)
  simp only [putsD, Act.put, List.setIfInBounds_toArray, List.set_cons_zero, List.set_cons_succ] at hA
  refine ⟨?_, ?_⟩
  · refine flow_cons rfl rfl (fun v w1 h1 hd K hK => ?_) ?_
    · exact flow_build4 rfl (n0 := f 0) (n1 := -f 1) (n2 := -f 2) (n3 := -f 3) (by rw [hA]; rfl) (by rw [hA]; rfl) (by rw [hA]; rfl) (by rw [hA]; rfl) Try.underlying105 (by kernel_rfl) (by kernel_rfl) (fun _ _ h => h) hK
    refine flow_cons rfl rfl (fun v w1 h1 hd K hK => ?_) ?_
    · exact flow_build4 rfl (n0 := g 0) (n1 := g 1) (n2 := g 2) (n3 := g 3) (by rw [hA]; rfl) (by rw [hA]; rfl) (by rw [hA]; rfl) (by rw [hA]; rfl) Try.underlying105 (by kernel_rfl) (by kernel_rfl) (fun _ _ h => h) hK
    refine flow_cons rfl rfl (fun v w1 h1 hd K hK => ?_) ?_
    · obtain ⟨b0, e0, n0⟩ : ∃ b, v 11 = .slice (some ⟨b, 0, none⟩) 4 4 ∧ blk w1 b #[.int .i64 (f 0), .int .i64 (-f 1), .int .i64 (-f 2), .int .i64 (-f 3)] 2 := hd 11 rfl (by kernel_rfl)
      obtain ⟨b1, e1, n1⟩ : ∃ b, v 20 = .slice (some ⟨b, 0, none⟩) 4 4 ∧ blk w1 b #[.int .i64 (g 0), .int .i64 (g 1), .int .i64 (g 2), .int .i64 (g 3)] 2 := hd 20 rfl (by kernel_rfl)
      rw [hA, e0, e1]
      go_simp
      refine (S0.out _ _ _ n0 n1).mono ?_
      rintro e w5 ⟨rfl, h5⟩
      exact hK _ _ _ (by rw [hA, e0, e1]; rfl) h5 rfl
    refine flow_cons rfl rfl (fun v w1 h1 hd K hK => ?_) ?_
    · exact flow_build4 rfl (n0 := f 0) (n1 := f 1) (n2 := f 2) (n3 := -f 3) (by rw [hA]; rfl) (by rw [hA]; rfl) (by rw [hA]; rfl) (by rw [hA]; rfl) Try.underlying105 (by kernel_rfl) (by kernel_rfl) (fun _ _ h => h) hK
    refine flow_cons rfl rfl (fun v w1 h1 hd K hK => ?_) ?_
    · exact flow_build4 rfl (n0 := g 1) (n1 := g 0) (n2 := g 3) (n3 := g 2) (by rw [hA]; rfl) (by rw [hA]; rfl) (by rw [hA]; rfl) (by rw [hA]; rfl) Try.underlying105 (by kernel_rfl) (by kernel_rfl) (fun _ _ h => h) hK
    refine flow_cons rfl rfl (fun v w1 h1 hd K hK => ?_) ?_
    · obtain ⟨b0, e0, n0⟩ : ∃ b, v 31 = .slice (some ⟨b, 0, none⟩) 4 4 ∧ blk w1 b #[.int .i64 (f 0), .int .i64 (f 1), .int .i64 (f 2), .int .i64 (-f 3)] 2 := hd 31 rfl (by kernel_rfl)
      obtain ⟨b1, e1, n1⟩ : ∃ b, v 40 = .slice (some ⟨b, 0, none⟩) 4 4 ∧ blk w1 b #[.int .i64 (g 1), .int .i64 (g 0), .int .i64 (g 3), .int .i64 (g 2)] 2 := hd 40 rfl (by kernel_rfl)
      rw [hA, e0, e1]
      go_simp
      refine (S1.out _ _ _ n0 n1).mono ?_
      rintro e w5 ⟨rfl, h5⟩
      exact hK _ _ _ (by rw [hA, e0, e1]; rfl) h5 rfl
    refine flow_cons rfl rfl (fun v w1 h1 hd K hK => ?_) ?_
    · exact flow_build4 rfl (n0 := f 0) (n1 := -f 1) (n2 := f 2) (n3 := f 3) (by rw [hA]; rfl) (by rw [hA]; rfl) (by rw [hA]; rfl) (by rw [hA]; rfl) Try.underlying105 (by kernel_rfl) (by kernel_rfl) (fun _ _ h => h) hK
    refine flow_cons rfl rfl (fun v w1 h1 hd K hK => ?_) ?_
    · exact flow_build4 rfl (n0 := g 2) (n1 := g 3) (n2 := g 0) (n3 := g 1) (by rw [hA]; rfl) (by rw [hA]; rfl) (by rw [hA]; rfl) (by rw [hA]; rfl) Try.underlying105 (by kernel_rfl) (by kernel_rfl) (fun _ _ h => h) hK
    refine flow_cons rfl rfl (fun v w1 h1 hd K hK => ?_) ?_
    · obtain ⟨b0, e0, n0⟩ : ∃ b, v 51 = .slice (some ⟨b, 0, none⟩) 4 4 ∧ blk w1 b #[.int .i64 (f 0), .int .i64 (-f 1), .int .i64 (f 2), .int .i64 (f 3)] 2 := hd 51 rfl (by kernel_rfl)
      obtain ⟨b1, e1, n1⟩ : ∃ b, v 60 = .slice (some ⟨b, 0, none⟩) 4 4 ∧ blk w1 b #[.int .i64 (g 2), .int .i64 (g 3), .int .i64 (g 0), .int .i64 (g 1)] 2 := hd 60 rfl (by kernel_rfl)
      rw [hA, e0, e1]
      go_simp
      refine (S2.out _ _ _ n0 n1).mono ?_
      rintro e w5 ⟨rfl, h5⟩
      exact hK _ _ _ (by rw [hA, e0, e1]; rfl) h5 rfl
    refine flow_cons rfl rfl (fun v w1 h1 hd K hK => ?_) ?_
    · exact flow_build4 rfl (n0 := f 0) (n1 := f 1) (n2 := -f 2) (n3 := f 3) (by rw [hA]; rfl) (by rw [hA]; rfl) (by rw [hA]; rfl) (by rw [hA]; rfl) Try.underlying105 (by kernel_rfl) (by kernel_rfl) (fun _ _ h => h) hK
    refine flow_cons rfl rfl (fun v w1 h1 hd K hK => ?_) ?_
    · exact flow_build4 rfl (n0 := g 3) (n1 := g 2) (n2 := g 1) (n3 := g 0) (by rw [hA]; rfl) (by rw [hA]; rfl) (by rw [hA]; rfl) (by rw [hA]; rfl) Try.underlying105 (by kernel_rfl) (by kernel_rfl) (fun _ _ h => h) hK
    refine flow_cons rfl rfl (fun v w1 h1 hd K hK => ?_) ?_
    · obtain ⟨b0, e0, n0⟩ : ∃ b, v 71 = .slice (some ⟨b, 0, none⟩) 4 4 ∧ blk w1 b #[.int .i64 (f 0), .int .i64 (f 1), .int .i64 (-f 2), .int .i64 (f 3)] 2 := hd 71 rfl (by kernel_rfl)
      obtain ⟨b1, e1, n1⟩ : ∃ b, v 80 = .slice (some ⟨b, 0, none⟩) 4 4 ∧ blk w1 b #[.int .i64 (g 3), .int .i64 (g 2), .int .i64 (g 1), .int .i64 (g 0)] 2 := hd 80 rfl (by kernel_rfl)
      rw [hA, e0, e1]
      go_simp
      refine (S3.out _ _ _ n0 n1).mono ?_
      rintro e w5 ⟨rfl, h5⟩
      exact hK _ _ _ (by rw [hA, e0, e1]; rfl) h5 rfl
    refine flow_cons rfl rfl (fun v w1 h1 hd K hK => ?_) ?_
    · have e0 : v 21 = .int .i64 (X 0) := hd 21 rfl (by kernel_rfl)
      have e1 : v 41 = .int .i64 (X 1) := hd 41 rfl (by kernel_rfl)
      have e2 : v 61 = .int .i64 (X 2) := hd 61 rfl (by kernel_rfl)
      have e3 : v 81 = .int .i64 (X 3) := hd 81 rfl (by kernel_rfl)
      refine flow_one (.agg #[.int .i64 (X 0), .int .i64 (X 1), .int .i64 (X 2), .int .i64 (X 3)]) (hA v) ?_ (fun _ _ => rfl) K hK
      rw [e0, e1, e2, e3]
      go_simp
      exact ⟨rfl, Below.refl _ _⟩
    exact flow_nil
  intro v w1 h1 hd
  have e82 : v 82 = .agg (qfn X) := (show v 82 = .agg #[.int .i64 (X 0), .int .i64 (X 1), .int .i64 (X 2), .int .i64 (X 3)] from hd 82 rfl).trans (congrArg Value.agg HX.out)
  rw [hA, e82]
  clear hd hA hfit
  replace r := r.below h1 r.lt
  replace hB := hB.trans (h1.mono hB.size)

  simp only [List.append_eq, List.cons_append, List.nil_append, List.drop_succ_cons, List.drop_zero]
  go_wp2_with ((refine wpList_store_row rfl _ _ _ rfl _ rfl _ rfl _ _ r (by rw [qfn_size]; kernel_rfl) (by simp only [qfn_size]) (qfn_one _) ?_))
  refine bodyPost_ret (results_vec rfl _ _ _ _ _ _ _ rfl (r.row (qfn X)) Try.underlying46 rfl (by rw [qfn_size]; kernel_rfl)) rfl ?_; refine ⟨?_, Below.setRow hB (by omega) _⟩
  rfl
end Go.Proofs.Ytnkjbdfhdenbcaa
