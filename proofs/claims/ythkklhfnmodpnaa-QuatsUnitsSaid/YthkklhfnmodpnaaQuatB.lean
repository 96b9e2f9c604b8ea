/-
  Conjugates of quaternions, and what it is that one is valid, in the package and in its specification.
-/
import Derived.Test.YthkklhfnmodpnaaQuatA
set_option linter.unusedSimpArgs false
set_option linter.unusedVariables false
namespace Go.Proofs.Ythkklhfnmodpnaa
open Go.RowKit PM Dt
def conjF (f : Nat → Int) : Nat → Int
  | 0 => f 0
  | i => wrap64 (-f i)
theorem conj_cells (f : Nat → Int) : #[Value.int .i64 (f 0), .int .i64 (wrap64 (-f 1)), .int .i64 (wrap64 (-f 2)), .int .i64 (wrap64 (-f 3))] = qfn (conjF f) := by unfold qfn; rfl
set_option maxRecDepth 100000 in
set_option maxHeartbeats 1000000 in
theorem conj_any (f : Nat → Int) (w : World) : Calls Try.prog 26 #[.agg (qfn f)] w fun e w' => e = .returned (.agg (qfn (conjF f))) ∧ Below w.heap.size w w' := by
  go_enter Try.func26, Try.ntmps26
  go_upto_region 1 with (fail)
  rw [zero_quat]
  have p : blk ((w.alloc (.cells (qfn f) 34)).alloc (.cells (qfn fun _ => 0) 34)) w.heap.size (qfn f) 34 := (blk.new _ _ _).alloc _
  have r : blk ((w.alloc (.cells (qfn f) 34)).alloc (.cells (qfn fun _ => 0) 34)) (w.heap.size + 1) (qfn fun _ => 0) 34 := blk.new' (by simp)
  have hB : Below w.heap.size w ((w.alloc (.cells (qfn f) 34)).alloc (.cells (qfn fun _ => 0) 34)) := by go_grown
  generalize (w.alloc (.cells (qfn f) 34)).alloc (.cells (qfn fun _ => 0) 34) = w0 at *
  have c0 : w0.cell? ⟨w.heap.size, 0, none⟩ = some (.int .i64 (f 0)) := p.cellIs (qfn_get f (by omega))
  have c1 : w0.cell? ⟨w.heap.size, 1, none⟩ = some (.int .i64 (f 1)) := p.cellIs (qfn_get f (by omega))
  have c2 : w0.cell? ⟨w.heap.size, 2, none⟩ = some (.int .i64 (f 2)) := p.cellIs (qfn_get f (by omega))
  have c3 : w0.cell? ⟨w.heap.size, 3, none⟩ = some (.int .i64 (f 3)) := p.cellIs (qfn_get f (by omega))
  go_wp2_with (refine wpList_store_row rfl _ _ _ rfl _ rfl (qfn (conjF f)) (by first | exact congrArg Value.agg (conj_cells f) | rfl) _ _ r (by rw [qfn_size]; kernel_rfl) (by simp only [qfn_size]) (qfn_one _) ?_)
  refine bodyPost_ret (results_cell_row rfl _ _ _ _ _ _ _ rfl (r.row (qfn (conjF f))) Try.underlying34 rfl (by rw [qfn_size]; kernel_rfl)) rfl ?_
  exact ⟨rfl, Below.setRow hB (by omega) _⟩
set_option maxRecDepth 100000 in
set_option maxHeartbeats 1000000 in
theorem rconj_any (f : Nat → Int) (w : World) : Calls Try.prog 27 #[.agg (qfn f)] w fun e w' => e = .returned (.agg (qfn (conjF f))) ∧ Below w.heap.size w w' := by
  go_enter Try.func27, Try.ntmps27
  go_upto_region 1 with (fail)
  rw [zero_quat]
  have p : blk ((w.alloc (.cells (qfn f) 34)).alloc (.cells (qfn fun _ => 0) 34)) w.heap.size (qfn f) 34 := (blk.new _ _ _).alloc _
  have r : blk ((w.alloc (.cells (qfn f) 34)).alloc (.cells (qfn fun _ => 0) 34)) (w.heap.size + 1) (qfn fun _ => 0) 34 := blk.new' (by simp)
  have hB : Below w.heap.size w ((w.alloc (.cells (qfn f) 34)).alloc (.cells (qfn fun _ => 0) 34)) := by go_grown
  generalize (w.alloc (.cells (qfn f) 34)).alloc (.cells (qfn fun _ => 0) 34) = w0 at *
  have c0 : w0.cell? ⟨w.heap.size, 0, none⟩ = some (.int .i64 (f 0)) := p.cellIs (qfn_get f (by omega))
  have c1 : w0.cell? ⟨w.heap.size, 1, none⟩ = some (.int .i64 (f 1)) := p.cellIs (qfn_get f (by omega))
  have c2 : w0.cell? ⟨w.heap.size, 2, none⟩ = some (.int .i64 (f 2)) := p.cellIs (qfn_get f (by omega))
  have c3 : w0.cell? ⟨w.heap.size, 3, none⟩ = some (.int .i64 (f 3)) := p.cellIs (qfn_get f (by omega))
  go_wp2_with (refine wpList_store_row rfl _ _ _ rfl _ rfl (qfn (conjF f)) (by first | exact congrArg Value.agg (conj_cells f) | rfl) _ _ r (by rw [qfn_size]; kernel_rfl) (by simp only [qfn_size]) (qfn_one _) ?_)
  refine bodyPost_ret (results_cell_row rfl _ _ _ _ _ _ _ rfl (r.row (qfn (conjF f))) Try.underlying34 rfl (by rw [qfn_size]; kernel_rfl)) rfl ?_
  exact ⟨rfl, Below.setRow hB (by omega) _⟩
/-- Is a quaternion valid? -/
def nQ (f : Nat → Int) : Int := hypQ [f 0, f 1, f 2, f 3]
def validQ (f : Nat → Int) : Bool := (fitE (nQ f) == 0) && (decide (1073741820 ≤ fitV (nQ f)) && decide (fitV (nQ f) ≤ 1073741828))
theorem sqs4 (f : Nat → Int) : sqs [f 0, f 1, f 2, f 3] = (f 0).natAbs * (f 0).natAbs + ((f 1).natAbs * (f 1).natAbs + ((f 2).natAbs * (f 2).natAbs + ((f 3).natAbs * (f 3).natAbs + 0))) := by
  rw [sqs_cons, sqs_cons, sqs_cons, sqs_cons, sqs_nil]
theorem hyp4_any (f : Nat → Int) (b : Nat) (w : World) (t : TypeId) (h : ∀ i, i < 4 → I64 (f i)) (p : blk w b (qfn f) t) :
    Calls Try.prog 75 #[.slice (some ⟨b, 0, none⟩) 4 4] w fun e w' => e = .returned (.tuple #[.int .i64 (fitV (nQ f)), .int .i64 (fitE (nQ f))]) ∧ w = w' :=
  (hypot_any [f 0, f 1, f 2, f 3] _ w (ints4 p) (list_I4 h)).mono fun e w' h => ⟨h.1.trans (by rw [if_neg (by simp), if_neg (by simp)]; rfl), h.2⟩
theorem rhyp4_any (f : Nat → Int) (b : Nat) (w : World) (t : TypeId) (h : ∀ i, i < 4 → I64 (f i)) (p : blk w b (qfn f) t) :
    Calls Try.prog 76 #[.slice (some ⟨b, 0, none⟩) 4 4] w fun e w' => e = .returned (.tuple #[.int .i64 (fitV (nQ f)), .int .i64 (fitE (nQ f))]) ∧ Below w.heap.size w w' :=
  (rhypot_any [f 0, f 1, f 2, f 3] _ w (ints4 p) (list_I4 h)).mono fun e w' h => ⟨h.1.trans (by rw [if_neg (by simp), if_neg (by simp)]; rfl), h.2⟩
theorem sq_bd {a : Int} (h1 : -1099511627776 ≤ a) (h2 : a ≤ 1099511627776) : a.natAbs * a.natAbs ≤ 1208925819614629174706176 :=
  Nat.le_trans (Nat.mul_le_mul (show a.natAbs ≤ 1099511627776 by omega) (show a.natAbs ≤ 1099511627776 by omega)) (by decide)
theorem nQ_ok {f : Nat → Int} (h : okQ f = true) : fitE (nQ f) = 0 ∧ fitV (nQ f) = nQ f := by
  have b : ∀ i, i < 4 → (f i).natAbs * (f i).natAbs ≤ 1208925819614629174706176 := fun i hi => by
    have := (vb_iff _).1 ((okQ_iff f).1 h i hi)
    exact sq_bd this.1 this.2
  have b0 := b 0 (by omega)
  have b1 := b 1 (by omega)
  have b2 := b 2 (by omega)
  have b3 := b 3 (by omega)
  have hs : sqs [f 0, f 1, f 2, f 3] < 9223372036854775808 * 9223372036854775808 := by rw [sqs4]; omega
  have hr : isqrt (sqs [f 0, f 1, f 2, f 3]) < 9223372036854775808 := (isqrt_lt (Nat.lt_trans hs (by decide))).2 hs
  have := fit_of (q := nQ f) (by unfold nQ hypQ; omega) (by unfold nQ hypQ; omega)
  exact ⟨this.2, this.1⟩
theorem sq_gt {a : Int} (h : ¬ (-1099511627776 ≤ a ∧ a ≤ 1099511627776)) : 1208925819614629174706176 ≤ a.natAbs * a.natAbs :=
  Nat.le_trans (show 1208925819614629174706176 ≤ 1099511627776 * 1099511627776 by decide) (Nat.mul_le_mul (show 1099511627776 ≤ a.natAbs by omega) (show 1099511627776 ≤ a.natAbs by omega))
theorem sqs4_le {f : Nat → Int} (h : ∀ i, i < 4 → I64 (f i)) : sqs [f 0, f 1, f 2, f 3] < 4 ^ 200 :=
  Nat.lt_of_le_of_lt (sqs_le [f 0, f 1, f 2, f 3] 8 (by simp) (list_I4 h)) (by decide)
/-- A quaternion that is not bounded is not valid. -/
theorem nQ_bad {f : Nat → Int} (hI : ∀ i, i < 4 → I64 (f i)) (h : okQ f = false) : validQ f = false := by
  have hex : ∃ i, i < 4 ∧ ¬ (-1099511627776 ≤ f i ∧ f i ≤ 1099511627776) := by
    apply Classical.byContradiction
    intro hn
    have : okQ f = true := (okQ_iff f).2 fun i hi => (vb_iff _).2 (Classical.byContradiction fun hc => hn ⟨i, hi, hc⟩)
    rw [h] at this; cases this
  obtain ⟨i, hi, hb⟩ := hex
  have hg := sq_gt hb
  have hs : 1099511627776 * 1099511627776 ≤ sqs [f 0, f 1, f 2, f 3] := by
    rw [sqs4]
    have : i = 0 ∨ i = 1 ∨ i = 2 ∨ i = 3 := by omega
    rcases this with rfl | rfl | rfl | rfl <;> omega
  have hr : 1099511627776 ≤ isqrt (sqs [f 0, f 1, f 2, f 3]) := (isqrt_ge (sqs4_le hI)).2 hs
  unfold validQ
  cases hq : inI (nQ f) with
  | false => rw [fitE_no hq]; rfl
  | true =>
    rw [fitV_yes hq]
    have : decide (nQ f ≤ 1073741828) = false := decide_eq_false (by unfold nQ hypQ; omega)
    rw [this, Bool.and_false, Bool.and_false]
set_option maxRecDepth 100000 in
set_option maxHeartbeats 1000000 in
theorem qvalid_any (f : Nat → Int) (w : World) (hI : ∀ i, i < 4 → I64 (f i)) : Calls Try.prog 28 #[.agg (qfn f)] w fun e w' => e = .returned (.bool (validQ f)) ∧ Below w.heap.size w w' := by
  have H := Lib.hid (fun b w t p => hyp4_any f b w t hI p)
  unfold validQ
  generalize fitV (nQ f) = N at *
  generalize fitE (nQ f) = E at *
  clear hI
  go_enter Try.func28, Try.ntmps28
  go_upto_region 1 with (fail)
  have p : blk (w.alloc (.cells (qfn f) 34)) w.heap.size (qfn f) 34 := blk.new _ _ _
  have hB : Below w.heap.size w (w.alloc (.cells (qfn f) 34)) := by go_grown
  generalize w.alloc (.cells (qfn f) 34) = w0 at *
  by_cases h0 : E = 0
  · have d0 : (E == 0) = true := by simp [h0]
    clear h0
    by_cases h1 : (1073741820 : Int) ≤ N
    · have d1 : decide ((1073741820 : Int) ≤ N) = true := decide_eq_true h1
      by_cases h2 : N ≤ 1073741828
      · have d2 : decide (N ≤ 1073741828) = true := decide_eq_true h2
        clear h1 h2
        go_wp2_with (go_at_call 75; refine (H.out _ _ _ p).mono ?_; rintro e w1 ⟨rfl, rfl⟩)
        go_ret
        exact ⟨by first | rfl | (simp only [d0, d1, d2]; rfl) | (simp only [d0, d1]; rfl), hB⟩
      · have d2 : decide (N ≤ 1073741828) = false := decide_eq_false h2
        clear h1 h2
        go_wp2_with (go_at_call 75; refine (H.out _ _ _ p).mono ?_; rintro e w1 ⟨rfl, rfl⟩)
        go_ret
        exact ⟨by first | rfl | (simp only [d0, d1, d2]; rfl) | (simp only [d0, d1]; rfl), hB⟩
    · have d1 : decide ((1073741820 : Int) ≤ N) = false := decide_eq_false h1
      clear h1
      go_wp2_with (go_at_call 75; refine (H.out _ _ _ p).mono ?_; rintro e w1 ⟨rfl, rfl⟩)
      go_ret
      exact ⟨by first | rfl | (simp only [d0, d1, d2]; rfl) | (simp only [d0, d1]; rfl), hB⟩
  · have d0 : (E == 0) = false := by simp [h0]
    clear h0
    go_wp2_with (go_at_call 75; refine (H.out _ _ _ p).mono ?_; rintro e w1 ⟨rfl, rfl⟩)
    go_ret
    exact ⟨by first | rfl | (simp only [d0]; rfl), hB⟩
set_option maxRecDepth 100000 in
set_option maxHeartbeats 1000000 in
theorem rqvalid_any (f : Nat → Int) (w : World) (hI : ∀ i, i < 4 → I64 (f i)) : Calls Try.prog 29 #[.agg (qfn f)] w fun e w' => e = .returned (.bool (validQ f)) ∧ Below w.heap.size w w' := by
  have H := Lib.hid (fun b w t p => rhyp4_any f b w t hI p)
  have V := Lib.hid (fun w => rbounded_any f w)
  have HB := Lib.hid (fun h => nQ_bad hI h)
  have HO := Lib.hid (fun h => nQ_ok (f := f) h)
  unfold validQ at HB ⊢
  generalize fitV (nQ f) = N at *
  generalize fitE (nQ f) = E at *
  clear hI
  generalize okQ f = bo at *
  go_enter Try.func29, Try.ntmps29
  go_upto_region 1 with (fail)
  have p : blk (w.alloc (.cells (qfn f) 34)) w.heap.size (qfn f) 34 := blk.new _ _ _
  have hB : Below w.heap.size w (w.alloc (.cells (qfn f) 34)) := by go_grown
  generalize w.alloc (.cells (qfn f) 34) = w0 at *
  cases bo
  · have HV := Lib.hid (HB.out rfl)
    clear HB HO
    go_wp2_with (first
        | (refine wpList_load_rowG ?hw _ _ rfl _ rfl _ _ _ _ p Try.underlying34 rfl ?hi ?_; (case hw => (first | rfl | (simp [Region.wanted, yielded]; done))); (case hi => (rw [qfn_size]; kernel_rfl)))
        | (go_at_call 73; refine (V.out _).mono ?_; rintro e w1 ⟨rfl, hb⟩; replace hB := hB.trans (hb.mono hB.size); replace p := p.below hb p.lt; clear hb))
    go_ret
    exact ⟨by rw [HV.out]; rfl, hB⟩
  have d0 := Lib.hid (HO.out rfl).1
  clear HB HO
  by_cases h1 : (1073741820 : Int) ≤ N
  · have d1 : decide ((1073741820 : Int) ≤ N) = true := decide_eq_true h1
    by_cases h2 : N ≤ 1073741828
    · have d2 : decide (N ≤ 1073741828) = true := decide_eq_true h2
      clear h1 h2
      go_wp2_with (first
        | (refine wpList_load_rowG ?hw _ _ rfl _ rfl _ _ _ _ p Try.underlying34 rfl ?hi ?_; (case hw => (first | rfl | (simp [Region.wanted, yielded]; done))); (case hi => (rw [qfn_size]; kernel_rfl)))
        | (go_at_call 73; refine (V.out _).mono ?_; rintro e w1 ⟨rfl, hb⟩; replace hB := hB.trans (hb.mono hB.size); replace p := p.below hb p.lt; clear hb)
        | (go_at_call 76; refine (H.out _ _ _ p).mono ?_; rintro e w1 ⟨rfl, hb⟩; replace hB := hB.trans (hb.mono hB.size); clear hb))
      go_ret
      exact ⟨by rw [d0.out]; first | rfl | (simp only [d1, d2]; rfl) | (simp only [d1]; rfl), hB⟩
    · have d2 : decide (N ≤ 1073741828) = false := decide_eq_false h2
      clear h1 h2
      go_wp2_with (first
        | (refine wpList_load_rowG ?hw _ _ rfl _ rfl _ _ _ _ p Try.underlying34 rfl ?hi ?_; (case hw => (first | rfl | (simp [Region.wanted, yielded]; done))); (case hi => (rw [qfn_size]; kernel_rfl)))
        | (go_at_call 73; refine (V.out _).mono ?_; rintro e w1 ⟨rfl, hb⟩; replace hB := hB.trans (hb.mono hB.size); replace p := p.below hb p.lt; clear hb)
        | (go_at_call 76; refine (H.out _ _ _ p).mono ?_; rintro e w1 ⟨rfl, hb⟩; replace hB := hB.trans (hb.mono hB.size); clear hb))
      go_ret
      exact ⟨by rw [d0.out]; first | rfl | (simp only [d1, d2]; rfl) | (simp only [d1]; rfl), hB⟩
  · have d1 : decide ((1073741820 : Int) ≤ N) = false := decide_eq_false h1
    clear h1
    go_wp2_with (first
      | (refine wpList_load_rowG ?hw _ _ rfl _ rfl _ _ _ _ p Try.underlying34 rfl ?hi ?_; (case hw => (first | rfl | (simp [Region.wanted, yielded]; done))); (case hi => (rw [qfn_size]; kernel_rfl)))
      | (go_at_call 73; refine (V.out _).mono ?_; rintro e w1 ⟨rfl, hb⟩; replace hB := hB.trans (hb.mono hB.size); replace p := p.below hb p.lt; clear hb)
      | (go_at_call 76; refine (H.out _ _ _ p).mono ?_; rintro e w1 ⟨rfl, hb⟩; replace hB := hB.trans (hb.mono hB.size); clear hb))
    go_ret
    exact ⟨by rw [d0.out]; first | rfl | (simp only [d1, d2]; rfl) | (simp only [d1]; rfl), hB⟩
end Go.Proofs.Ythkklhfnmodpnaa
