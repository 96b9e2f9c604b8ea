/-
  The rotation between two attitudes, in the package and in its specification.
-/
import Derived.Test.YtkmelddejdikgaaTurn
import Derived.Test.YtkmelddejdikgaaBase
set_option linter.unusedSimpArgs false
set_option linter.unusedVariables false
namespace Go.Proofs.Ytkmelddejdikgaa
open Go.RowKit PM Dt
theorem d4_bd {f g : Nat → Int} (hf : okQ f = true) (hg : okQ g = true) : -4503599627370497 ≤ rnd (d4 f g) ∧ rnd (d4 f g) ≤ 4503599627370497 := by
  have a0 := vb_prod ((okQ_iff f).1 hf 0 (by omega)) ((okQ_iff g).1 hg 0 (by omega))
  have a1 := vb_prod ((okQ_iff f).1 hf 1 (by omega)) ((okQ_iff g).1 hg 1 (by omega))
  have a2 := vb_prod ((okQ_iff f).1 hf 2 (by omega)) ((okQ_iff g).1 hg 2 (by omega))
  have a3 := vb_prod ((okQ_iff f).1 hf 3 (by omega)) ((okQ_iff g).1 hg 3 (by omega))
  have e : d4 f g = f 0 * g 0 + (f 1 * g 1 + (f 2 * g 2 + (f 3 * g 3 + 0))) := by unfold d4; rw [dotS_cons, dotS_cons, dotS_cons, dotS_cons, dotS_nil]
  rw [e]
  unfold rnd
  generalize f 0 * g 0 = x0 at *
  generalize f 1 * g 1 = x1 at *
  generalize f 2 * g 2 = x2 at *
  generalize f 3 * g 3 = x3 at *
  omega
theorem qprod_bd (f g : Nat → Int) {i : Nat} (hi : i < 4) : -4503599627370497 ≤ qprodF f g i ∧ qprodF f g i ≤ 4503599627370497 := by
  unfold qprodF
  split
  · rename_i h
    rw [Bool.and_eq_true] at h
    exact d4_bd (prL_ok h.1 hi) (prM_ok h.2 hi)
  · show -4503599627370497 ≤ (0 : Int) ∧ (0 : Int) ≤ 4503599627370497
    omega
def negF (p : Nat → Int) : Nat → Int := fun i => -p i
def betX (f g : Nat → Int) : Nat → Int := if qprodF (conjF f) g 0 < 0 then negF (qprodF (conjF f) g) else qprodF (conjF f) g
def betF (f g : Nat → Int) : Nat → Int := if validQ f && validQ g then betX f g else fun _ => 0
def betE (f g : Nat → Int) : Int := if validQ f && validQ g then 0 else 2
set_option maxRecDepth 100000 in
set_option maxHeartbeats 2000000 in
theorem betC_any (p : Nat → Int) (b : Nat) (w : World) (q : blk w b (qfn p) 23) (i : Nat) (hi : i < 4) (hp : -4503599627370497 ≤ p i ∧ p i ≤ 4503599627370497) : Calls Try.prog 97 #[.int .i64 i, .pointer (some ⟨b, 0, none⟩)] w fun e w' => e = .returned (.tuple #[.int .i64 (negF p i), .int .i64 0]) ∧ Below w.heap.size w w' := by
  have hw : IntKind.i64.wrap (-p i) = negF p i := by rw [IntKind.wrap_i64]; unfold negF; omega
  have hw2 : wrap64 (-p i) = negF p i := by unfold wrap64 negF; omega
  have hdk : decide ((i : Int) < 4) = true := decide_eq_true (by omega)
  have hdk' : decide (i < 4) = true := decide_eq_true hi
  have hi3 : (i : Int) < 4 := by omega
  have hc : w.cell? ⟨b, i, none⟩ = some (.int .i64 (p i)) := q.cellIs (qfn_get _ hi)
  clear hp q
  go_enter Try.func97, Try.ntmps97
  go_wp2_with (fail)
  go_ret2
  exact ⟨by first | rfl | simp only [hw] | simp only [hw2], Below.refl _ _⟩
set_option maxRecDepth 100000 in
set_option maxHeartbeats 2000000 in
theorem quadB_any (x er : Nat → Int) (c1 : Value) (w : World)
    (hf : Hid (∀ i : Nat, i < 4 → ∀ w1, Below w.heap.size w w1 → Calls Try.prog 97 #[.int .i64 i, c1] w1 fun e w' => e = .returned (.tuple #[.int .i64 (x i), .int .i64 (er i)]) ∧ Below w1.heap.size w1 w')) :
    Calls Try.prog 96 #[.func (.func 97) #[] #[c1]] w fun e w' => e = .returned (.agg (qfn x)) ∧ Below w.heap.size w w' := by
  go_enter Try.func96, Try.ntmps96
  go_upto_region 2 with (fail)
  rw [zero_quat]
  have p : blk ((w.alloc (.cells (qfn fun _ => 0) 23)).alloc (.cells (qfn fun _ => 0) 23)) w.heap.size (qfn fun _ => 0) 23 := (blk.new _ _ _).alloc _
  have q : blk ((w.alloc (.cells (qfn fun _ => 0) 23)).alloc (.cells (qfn fun _ => 0) 23)) (w.heap.size + 1) (qfn fun _ => 0) 23 := blk.new' (by simp)
  have hB : Below w.heap.size w ((w.alloc (.cells (qfn fun _ => 0) 23)).alloc (.cells (qfn fun _ => 0) 23)) := by go_grown
  generalize (w.alloc (.cells (qfn fun _ => 0) 23)).alloc (.cells (qfn fun _ => 0) 23) = w0 at *
  go_wp2_with (fail)
  go_loopg [5] 4 (fun g iv wr => ∃ k : Nat, g + k = 4 ∧ iv = .int .i64 k ∧ blk wr w.heap.size (qfn fun _ => 0) 23 ∧ blk wr (w.heap.size + 1) (qfn (pre4 x k)) 23 ∧ Below w.heap.size w wr)
  case atStart => exact ⟨0, rfl, rfl, p, by rw [show qfn (pre4 x 0) = qfn (fun _ => 0) from qfn_congr fun i _ => by simp [pre4]]; exact q, hB⟩
  case round =>
    clear p q hB
    obtain ⟨k, hk, rfl, p, q, hB⟩ := hrel
    by_cases hkn : k < 4
    · have hdk : decide ((k : Int) < 4) = true := decide_eq_true (by omega)
      have hdk' : decide (k < 4) = true := decide_eq_true (by omega)
      have hw3 : IntKind.i64.wrap ((k : Int) + 1) = ((k + 1 : Nat) : Int) := by rw [IntKind.wrap_i64]; omega
      have HC := Lib.hid (hf.out k hkn)
      have hi4 : (k : Int) < 4 := by omega
      go_wp2_with (go_at_call 97; refine (HC.out _ hB).mono ?_; rintro e w1 ⟨rfl, hb⟩; replace hB := hB.trans (hb.mono hB.size); replace p := p.below hb p.lt; replace q := q.below hb q.lt; clear hb; have fz : w1.frozen? ⟨w.heap.size + 1, k, none⟩ = false := q.free _; have cz : w1.cell? ⟨w.heap.size + 1, k, none⟩ = some (.int .i64 (pre4 x k k)) := q.cellIs (qfn_get _ hkn))
      go_roundg (4 - (k + 1))
      case rel =>
        refine ⟨k + 1, by omega, rfl, p.setOther (by simp) _, q.set' (qfn_set hkn ?_ ?_), hB.setCell (by simp) _⟩
        · simp [pre4]
        · intro j hj hne; simp only [pre4]; split <;> split <;> first | rfl | omega
      case measure => omega
    · obtain rfl : k = 4 := by omega
      have e4 : qfn (pre4 x 4) = qfn x := qfn_congr fun i hi => by simp [pre4, hi]
      rw [e4] at q
      go_wp2_with (first | (refine wpList_load_rowG ?hw _ _ rfl _ rfl _ _ _ _ q Try.underlying23 rfl ?hi ?_; (case hw => (first | rfl | (simp [Region.wanted, yielded]; done))); (case hi => (rw [qfn_size]; kernel_rfl))) | (refine wpList_store_row rfl _ _ _ rfl _ rfl _ rfl _ _ p (by rw [qfn_size]; kernel_rfl) (by simp only [qfn_size]) (qfn_one _) ?_))
      refine bodyPost_ret (results_cell_row rfl _ _ _ _ _ _ _ rfl (p.row (qfn x)) Try.underlying23 rfl (by rw [qfn_size]; kernel_rfl)) rfl ?_; refine ⟨?_, Below.setRow hB (by omega) _⟩
      rfl
set_option maxRecDepth 100000 in
set_option maxHeartbeats 2000000 in
theorem between_any (f g : Nat → Int) (w : World) (hf : ∀ i, i < 4 → I64 (f i)) (hg : ∀ i, i < 4 → I64 (g i)) : Calls Try.prog 34 #[.agg (qfn f), .agg (qfn g)] w fun e w' => e = .returned (.tuple #[.agg (qfn (betF f g)), .int .i64 (betE f g)]) ∧ Below w.heap.size w w' := by
  have V1 := Lib.hid (fun w => qvalid_any f w hf)
  have V2 := Lib.hid (fun w => qvalid_any g w hg)
  have CJ := Lib.hid (fun w => conj_any f w)
  have PR := Lib.hid (fun w => qprod_any (conjF f) g w)
  have HB := Lib.hid (fun i (hi : i < 4) => qprod_bd (conjF f) g hi)
  unfold betF betE betX
  generalize qprodF (conjF f) g = Y at *
  generalize qprodE (conjF f) g = YE at *
  generalize validQ f = b1 at *
  generalize validQ g = b2 at *
  generalize conjF f = C at *
  clear hf hg
  go_enter Try.func34, Try.ntmps34
  go_upto_region 1 with (fail)
  simp only [zero_quat]
  have p : blk (((w.alloc (.cells (qfn f) 23)).alloc (.cells (qfn g) 23)).alloc (.cells (qfn fun _ => 0) 23)) w.heap.size (qfn f) 23 := ((blk.new _ _ _).alloc _).alloc _
  have q : blk (((w.alloc (.cells (qfn f) 23)).alloc (.cells (qfn g) 23)).alloc (.cells (qfn fun _ => 0) 23)) (w.heap.size + 1) (qfn g) 23 := (blk.new' (by simp)).alloc _
  have r : blk (((w.alloc (.cells (qfn f) 23)).alloc (.cells (qfn g) 23)).alloc (.cells (qfn fun _ => 0) 23)) (w.heap.size + 2) (qfn fun _ => 0) 23 := blk.new' (by simp)
  have hB : Below w.heap.size w (((w.alloc (.cells (qfn f) 23)).alloc (.cells (qfn g) 23)).alloc (.cells (qfn fun _ => 0) 23)) := by go_grown
  generalize (((w.alloc (.cells (qfn f) 23)).alloc (.cells (qfn g) 23)).alloc (.cells (qfn fun _ => 0) 23)) = w0 at *
  cases b1 <;> cases b2
  case true.true =>
    go_upto_region 3 with (first
      | (refine wpList_load_rowG ?hw _ _ rfl _ rfl _ _ _ _ p Try.underlying23 rfl ?hi ?_; (case hw => (first | rfl | (simp [Region.wanted, yielded]; done))); (case hi => (first | kernel_rfl | (rw [qfn_size]; kernel_rfl))))
      | (refine wpList_load_rowG ?hw _ _ rfl _ rfl _ _ _ _ q Try.underlying23 rfl ?hi ?_; (case hw => (first | rfl | (simp [Region.wanted, yielded]; done))); (case hi => (first | kernel_rfl | (rw [qfn_size]; kernel_rfl))))
      | (refine wpList_load_rowG ?hw _ _ rfl _ rfl _ _ _ _ r Try.underlying23 rfl ?hi ?_; (case hw => (first | rfl | (simp [Region.wanted, yielded]; done))); (case hi => (first | kernel_rfl | (rw [qfn_size]; kernel_rfl))))
      | (go_at_call 33; with_reducible refine (V1.out _).mono ?_; rintro e w1 ⟨rfl, hb⟩; replace hB := hB.trans (hb.mono hB.size); replace p := p.below hb p.lt; replace q := q.below hb q.lt; replace r := r.below hb r.lt; clear hb)
      | (go_at_call 33; with_reducible refine (V2.out _).mono ?_; rintro e w2 ⟨rfl, hb⟩; replace hB := hB.trans (hb.mono hB.size); replace p := p.below hb p.lt; replace q := q.below hb q.lt; replace r := r.below hb r.lt; clear hb))
    refine wp_region_Y 8 10 rfl (by kernel_rfl) ?_
    replace p := p.drew
    replace q := q.drew
    replace r := r.drew
    replace hB : Below w.heap.size w w2.drew := hB.drew
    generalize w2.drew = w2d at *
    apply wpY_takeA 0; (case ho' => exact rfl); (case hg => exact rfl); (case hB => kernel_rfl); (case hW => kernel_rfl); (case h => (intro w1 h1; first | exact detR_row _ _ rfl _ rfl _ _ _ (p.below h1 p.lt) Try.underlying23 rfl (by first | kernel_rfl | (rw [qfn_size]; kernel_rfl)) rfl | (have hc := (p.below h1 p.lt).cellIs (qfn_get _ (show 0 < 4 by omega)); go_simp; exact ⟨rfl, Below.refl _ _⟩)))
    simp only [Act.put, sIT, sCZ, sCS]
    apply wpY_takeA 1; (case ho' => exact rfl); (case hg => exact rfl); (case hB => kernel_rfl); (case hW => kernel_rfl); (case h => (intro w1 h1; go_simp; refine (CJ.out _).mono ?_; rintro e w2 ⟨rfl, h2⟩; exact ⟨rfl, h2⟩))
    simp only [Act.put, sIT, sCZ, sCS]
    apply wpY_takeA 2; (case ho' => exact rfl); (case hg => exact rfl); (case hB => kernel_rfl); (case hW => kernel_rfl); (case h => (intro w1 h1; first | exact detR_row _ _ rfl _ rfl _ _ _ (q.below h1 q.lt) Try.underlying23 rfl (by first | kernel_rfl | (rw [qfn_size]; kernel_rfl)) rfl | (have hc := (q.below h1 q.lt).cellIs (qfn_get _ (show 0 < 4 by omega)); go_simp; exact ⟨rfl, Below.refl _ _⟩)))
    simp only [Act.put, sIT, sCZ, sCS]
    apply wpY_takeA 3; (case ho' => exact rfl); (case hg => exact rfl); (case hB => kernel_rfl); (case hW => kernel_rfl); (case h => (intro w1 h1; go_simp; refine (PR.out _).mono ?_; rintro e w2 ⟨rfl, h2⟩; exact ⟨rfl, h2⟩))
    simp only [Act.put, sIT, sCZ, sCS]
    apply wpY_takeB 4; (case ho' => exact rfl); (case hg => exact rfl); (case hB => kernel_rfl); (case h => (intro w1; go_simp; exact ⟨rfl, Below.refl _ _⟩))
    simp only [Act.put, sIT, sCZ, sCS]
    apply wpY_takeB 5; (case ho' => exact rfl); (case hg => exact rfl); (case hB => kernel_rfl); (case h => (intro w1; go_simp; exact ⟨rfl, Below.refl _ _⟩))
    simp only [Act.put, sIT, sCZ, sCS]
    apply wpY_takeB 6; (case ho' => exact rfl); (case hg => exact rfl); (case hB => kernel_rfl); (case h => (intro w1; go_simp; exact ⟨rfl, Below.refl _ _⟩))
    simp only [Act.put, sIT, sCZ, sCS]
    refine wpY_more1 7 rfl rfl (by kernel_rfl) (fun wn45 h1 K hK => ?_)
    go_simp
    refine hK _ _ ((Below.refl _ _).alloc (Nat.le_refl _) _) ?_
    simp only [zero_quat]
    replace hB := hB.trans (h1.mono hB.size)
    replace p := p.below h1 p.lt
    replace q := q.below h1 q.lt
    replace r := r.below h1 r.lt
    clear h1 hK K
    have m := blk.new wn45 (qfn fun _ => 0) 23
    have le_0 := hB.size
    replace hB := hB.alloc hB.size (.cells (qfn fun _ => 0) 23)
    have ne_p_m : w.heap.size ≠ wn45.heap.size := Nat.ne_of_lt p.lt
    replace p := p.alloc (.cells (qfn fun _ => 0) 23)
    have ne_q_m : (w.heap.size + 1) ≠ wn45.heap.size := Nat.ne_of_lt q.lt
    replace q := q.alloc (.cells (qfn fun _ => 0) 23)
    have ne_r_m : (w.heap.size + 2) ≠ wn45.heap.size := Nat.ne_of_lt r.lt
    replace r := r.alloc (.cells (qfn fun _ => 0) 23)
    have le_m := le_0
    generalize wn45.alloc (.cells (qfn fun _ => 0) 23) = wn45x at *
    generalize wn45.heap.size = m_b at *
    try simp only [Act.put, sIT, sCZ, sCS]
    refine wpY_one rfl rfl (by kernel_rfl) (fun wt67 ht => ?_)
    replace hB := hB.trans (ht.mono hB.size)
    replace p := p.below ht p.lt
    replace q := q.below ht q.lt
    replace r := r.below ht r.lt
    replace m := m.below ht m.lt
    clear ht
    refine oper_store_row _ _ _ rfl _ rfl _ rfl _ _ m (by first | kernel_rfl | (rw [qfn_size]; kernel_rfl)) (by first | rfl | simp only [qfn_size]) (by first | exact qfn_one _ | rfl) ?_
    replace p := p.rowOther ne_p_m (qfn Y)
    replace q := q.rowOther ne_q_m (qfn Y)
    replace r := r.rowOther ne_r_m (qfn Y)
    replace m := m.row (qfn Y)
    replace hB := Below.setRow hB le_m (qfn Y)
    generalize wt67.setRow m_b (qfn Y) = wt67s at *
    try simp only [Act.put, sIT, sCZ, sCS]
    apply wpY_takeB 9; (case ho' => exact rfl); (case hg => exact rfl); (case hB => kernel_rfl); (case h => (intro w1; go_simp; exact ⟨rfl, Below.refl _ _⟩))
    simp only [Act.put, sIT, sCZ, sCS]
    refine wpY_end (by kernel_rfl) (fun we84 ht => ?_)
    replace hB := hB.trans (ht.mono hB.size)
    replace p := p.below ht p.lt
    replace q := q.below ht q.lt
    replace r := r.below ht r.lt
    replace m := m.below ht m.lt
    clear ht
    have c0 : we84.cell? ⟨m_b, 0, none⟩ = some (.int .i64 (Y 0)) := m.cellIs (qfn_get _ (by omega))
    by_cases h0 : Y 0 < 0
    · have d0 : decide (Y 0 < 0) = true := decide_eq_true h0
      have H0 := Lib.hid h0
      have QD := Lib.hid (fun w' (h : Below we84.heap.size we84 w') => quadB_any (negF Y) (fun _ => 0) (.pointer (some ⟨m_b, 0, none⟩)) w' (fun i hi w1 h1 => betC_any Y m_b w1 ((m.below h m.lt).below h1 (m.below h m.lt).lt) i hi (HB.out i hi)))
      go_upto_region 6 with (first
        | (go_at_call 96; with_reducible refine (QD.out _ (Below.refl _ _)).mono ?_; rintro e w7 ⟨rfl, hb⟩; replace hB := hB.trans (hb.mono hB.size); replace p := p.below hb p.lt; replace q := q.below hb q.lt; replace r := r.below hb r.lt; replace m := m.below hb m.lt; clear hb)
        | (refine wpList_store_row rfl _ _ _ rfl _ rfl _ rfl _ _ m (by first | kernel_rfl | (rw [qfn_size]; kernel_rfl)) (by first | rfl | simp only [qfn_size]) (by first | exact qfn_one _ | rfl) ?_))
      replace p := p.rowOther ne_p_m (qfn (negF Y))
      replace q := q.rowOther ne_q_m (qfn (negF Y))
      replace r := r.rowOther ne_r_m (qfn (negF Y))
      replace m := m.row (qfn (negF Y))
      replace hB := Below.setRow hB le_m (qfn (negF Y))
      generalize w7.setRow m_b (qfn (negF Y)) = w7s at *
      go_wp2_with (first
        | (refine wpList_load_rowG ?hw _ _ rfl _ rfl _ _ _ _ p Try.underlying23 rfl ?hi ?_; (case hw => (first | rfl | (simp [Region.wanted, yielded]; done))); (case hi => (first | kernel_rfl | (rw [qfn_size]; kernel_rfl))))
        | (refine wpList_load_rowG ?hw _ _ rfl _ rfl _ _ _ _ q Try.underlying23 rfl ?hi ?_; (case hw => (first | rfl | (simp [Region.wanted, yielded]; done))); (case hi => (first | kernel_rfl | (rw [qfn_size]; kernel_rfl))))
        | (refine wpList_load_rowG ?hw _ _ rfl _ rfl _ _ _ _ r Try.underlying23 rfl ?hi ?_; (case hw => (first | rfl | (simp [Region.wanted, yielded]; done))); (case hi => (first | kernel_rfl | (rw [qfn_size]; kernel_rfl))))
        | (refine wpList_load_rowG ?hw _ _ rfl _ rfl _ _ _ _ m Try.underlying23 rfl ?hi ?_; (case hw => (first | rfl | (simp [Region.wanted, yielded]; done))); (case hi => (first | kernel_rfl | (rw [qfn_size]; kernel_rfl))))
        | (refine wpList_store_row rfl _ _ _ rfl _ rfl _ rfl _ _ r (by first | kernel_rfl | (rw [qfn_size]; kernel_rfl)) (by first | rfl | simp only [qfn_size]) (by first | exact qfn_one _ | rfl) ?_))
      refine bodyPost_ret (results_vec rfl _ _ _ _ _ _ _ rfl (r.row (qfn (negF Y))) Try.underlying23 rfl (by first | kernel_rfl | (rw [qfn_size]; kernel_rfl))) rfl ?_
      refine ⟨?_, Below.setRow hB (by omega) _⟩
      first | rfl | (rw [if_pos rfl, if_pos rfl, if_pos H0.out]; rfl)
    · have d0 : decide (Y 0 < 0) = false := decide_eq_false h0
      have H0 := Lib.hid h0
      go_wp2_with (first
        | (refine wpList_load_rowG ?hw _ _ rfl _ rfl _ _ _ _ p Try.underlying23 rfl ?hi ?_; (case hw => (first | rfl | (simp [Region.wanted, yielded]; done))); (case hi => (first | kernel_rfl | (rw [qfn_size]; kernel_rfl))))
        | (refine wpList_load_rowG ?hw _ _ rfl _ rfl _ _ _ _ q Try.underlying23 rfl ?hi ?_; (case hw => (first | rfl | (simp [Region.wanted, yielded]; done))); (case hi => (first | kernel_rfl | (rw [qfn_size]; kernel_rfl))))
        | (refine wpList_load_rowG ?hw _ _ rfl _ rfl _ _ _ _ r Try.underlying23 rfl ?hi ?_; (case hw => (first | rfl | (simp [Region.wanted, yielded]; done))); (case hi => (first | kernel_rfl | (rw [qfn_size]; kernel_rfl))))
        | (refine wpList_load_rowG ?hw _ _ rfl _ rfl _ _ _ _ m Try.underlying23 rfl ?hi ?_; (case hw => (first | rfl | (simp [Region.wanted, yielded]; done))); (case hi => (first | kernel_rfl | (rw [qfn_size]; kernel_rfl))))
        | (refine wpList_store_row rfl _ _ _ rfl _ rfl _ rfl _ _ r (by first | kernel_rfl | (rw [qfn_size]; kernel_rfl)) (by first | rfl | simp only [qfn_size]) (by first | exact qfn_one _ | rfl) ?_))
      refine bodyPost_ret (results_vec rfl _ _ _ _ _ _ _ rfl (r.row (qfn Y)) Try.underlying23 rfl (by first | kernel_rfl | (rw [qfn_size]; kernel_rfl))) rfl ?_
      refine ⟨?_, Below.setRow hB (by omega) _⟩
      first | rfl | (rw [if_pos rfl, if_pos rfl, if_neg H0.out]; rfl)
  all_goals
    go_wp2_with (first
      | (refine wpList_load_rowG ?hw _ _ rfl _ rfl _ _ _ _ p Try.underlying23 rfl ?hi ?_; (case hw => (first | rfl | (simp [Region.wanted, yielded]; done))); (case hi => (first | kernel_rfl | (rw [qfn_size]; kernel_rfl))))
      | (refine wpList_load_rowG ?hw _ _ rfl _ rfl _ _ _ _ q Try.underlying23 rfl ?hi ?_; (case hw => (first | rfl | (simp [Region.wanted, yielded]; done))); (case hi => (first | kernel_rfl | (rw [qfn_size]; kernel_rfl))))
      | (refine wpList_load_rowG ?hw _ _ rfl _ rfl _ _ _ _ r Try.underlying23 rfl ?hi ?_; (case hw => (first | rfl | (simp [Region.wanted, yielded]; done))); (case hi => (first | kernel_rfl | (rw [qfn_size]; kernel_rfl))))
      | (go_at_call 33; with_reducible refine (V1.out _).mono ?_; rintro e w1 ⟨rfl, hb⟩; replace hB := hB.trans (hb.mono hB.size); replace p := p.below hb p.lt; replace q := q.below hb q.lt; replace r := r.below hb r.lt; clear hb)
      | (go_at_call 33; with_reducible refine (V2.out _).mono ?_; rintro e w2 ⟨rfl, hb⟩; replace hB := hB.trans (hb.mono hB.size); replace p := p.below hb p.lt; replace q := q.below hb q.lt; replace r := r.below hb r.lt; clear hb)
      | (rw [zero_quat]; refine wpList_store_row rfl _ _ _ rfl _ rfl _ rfl _ _ r (by first | kernel_rfl | (rw [qfn_size]; kernel_rfl)) (by first | rfl | simp only [qfn_size]) (by first | exact qfn_one _ | rfl) ?_))
    refine bodyPost_ret (results_vec rfl _ _ _ _ _ _ _ rfl (r.row (qfn fun _ => 0)) Try.underlying23 rfl (by first | kernel_rfl | (rw [qfn_size]; kernel_rfl))) rfl ?_
    refine ⟨?_, Below.setRow hB (by omega) _⟩
    rfl
end Go.Proofs.Ytkmelddejdikgaa
