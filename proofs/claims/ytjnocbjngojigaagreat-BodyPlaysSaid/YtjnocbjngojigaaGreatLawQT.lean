/-
  QuatsTurns returns true: Turn of the specification, and the walk.
-/
import Derived.Test.YtjnocbjngojigaaGreatTurn
import Derived.Test.YtjnocbjngojigaaGreatBase
set_option linter.unusedSimpArgs false
set_option linter.unusedVariables false
namespace Go.Proofs.YtjnocbjngojigaaGreat
open Go.RowKit PM Dt
set_option maxRecDepth 100000 in
set_option maxHeartbeats 2000000 in
theorem rturn_any (f g : Nat → Int) (w : World) (hf : ∀ i, i < 4 → I64 (f i)) : Calls Tryz.prog 59 #[.agg (qfn f), .agg (vfn g)] w fun e w' => e = .returned (.tuple #[.agg (qfn (turnF f g)), .int .i64 (turnE f g)]) ∧ Below w.heap.size w w' := by
  have V := Lib.hid (fun w => rqvalid_any f w hf)
  have PR := Lib.hid (fun w => rqprod_any f (rq g) w)
  have UN := Lib.hid (fun w => rqunit_any (qprodF f (rq g)) w)
  obtain ⟨F, hF⟩ : ∃ F, turnF f g = F := ⟨_, rfl⟩
  obtain ⟨E, hE⟩ : ∃ E, turnE f g = E := ⟨_, rfl⟩
  rw [hF, hE]
  unfold turnF turnOk at hF
  unfold turnE turnOk at hE
  have HF := Lib.hid hF
  have HE := Lib.hid hE
  have rc := Lib.hid (rq_cells g)
  clear hF hE hf
  generalize qunF (qprodF f (rq g)) = X at *
  generalize qunE (qprodF f (rq g)) = XE at *
  generalize qprodF f (rq g) = Y at *
  generalize qprodE f (rq g) = YE at *
  generalize validQ f = b1 at *
  obtain ⟨R, hR⟩ : ∃ R, rq g = R := ⟨_, rfl⟩
  rw [hR] at PR rc
  clear hR
  go_enter Tryz.func59, Tryz.ntmps59
  go_upto_region 1 with (fail)
  simp only [zero_quat]
  have p : blk (((w.alloc (.cells (qfn f) 31)).alloc (.cells (vfn g) 27)).alloc (.cells (qfn fun _ => 0) 31)) w.heap.size (qfn f) 31 := ((blk.new _ _ _).alloc _).alloc _
  have q : blk (((w.alloc (.cells (qfn f) 31)).alloc (.cells (vfn g) 27)).alloc (.cells (qfn fun _ => 0) 31)) (w.heap.size + 1) (vfn g) 27 := (blk.new' (by simp)).alloc _
  have r : blk (((w.alloc (.cells (qfn f) 31)).alloc (.cells (vfn g) 27)).alloc (.cells (qfn fun _ => 0) 31)) (w.heap.size + 2) (qfn fun _ => 0) 31 := blk.new' (by simp)
  have hB : Below w.heap.size w (((w.alloc (.cells (qfn f) 31)).alloc (.cells (vfn g) 27)).alloc (.cells (qfn fun _ => 0) 31)) := by go_grown
  generalize (((w.alloc (.cells (qfn f) 31)).alloc (.cells (vfn g) 27)).alloc (.cells (qfn fun _ => 0) 31)) = w0 at *
  go_wp2_with (fail)
  go_loopg [6] 3 (fun g_ iv wr => ∃ k : Nat, g_ + k = 3 ∧ iv = .int .i64 k ∧ Hid (∀ j, j < k → sb 1073741824 (g j) = true) ∧ blk wr w.heap.size (qfn f) 31 ∧ blk wr (w.heap.size + 1) (vfn g) 27 ∧ blk wr (w.heap.size + 2) (qfn fun _ => 0) 31 ∧ Below w.heap.size w wr)
  case atStart => exact ⟨0, rfl, rfl, fun j hj => by omega, p, q, r, hB⟩
  case round =>
    clear p q r hB
    obtain ⟨k, hk, rfl, hall, p, q, r, hB⟩ := hrel
    by_cases hkn : k < 3
    · have hdk : decide ((k : Int) < 3) = true := decide_eq_true (by omega)
      have hdk' : decide (k < 3) = true := decide_eq_true (by omega)
      have hk3 : (k : Int) < 3 := by omega
      have hw3 : IntKind.i64.wrap ((k : Int) + 1) = ((k + 1 : Nat) : Int) := by rw [IntKind.wrap_i64]; omega
      have ck : wr.cell? ⟨w.heap.size + 1, k, none⟩ = some (.int .i64 (g k)) := q.cellIs (vfn_get g hkn)
      by_cases h1 : -1073741824 ≤ g k
      · have d1 : decide (g k < -1073741824) = false := decide_eq_false (by omega)
        by_cases h2 : g k ≤ 1073741824
        · have d2 : decide (1073741824 < g k) = false := decide_eq_false (by omega)
          have HV := Lib.hid ((sb_iff _ _).2 ⟨h1, h2⟩)
          clear h1 h2
          go_wp2_with (fail)
          go_roundg (3 - (k + 1))
          case rel =>
            refine ⟨k + 1, by omega, rfl, fun j hj => ?_, p, q, r, hB⟩
            by_cases e : j = k
            · subst e; exact HV.out
            · exact hall.out j (by omega)
          case measure => omega
        · have d2 : decide (1073741824 < g k) = true := decide_eq_true (by omega)
          have HV := Lib.hid (show smallB g 1073741824 = false from smallB_no hkn (by omega))
          clear h1 h2
          go_wp2_with (first
            | (rw [zero_quat]; refine wpList_store_row rfl _ _ _ rfl _ rfl _ rfl _ _ r (by first | kernel_rfl | (rw [qfn_size]; kernel_rfl)) (by first | rfl | simp only [qfn_size]) (by first | exact qfn_one _ | rfl) ?_))
          refine bodyPost_ret (results_vec rfl _ _ _ _ _ _ _ rfl (r.row (qfn fun _ => 0)) Tryz.underlying31 rfl (by first | kernel_rfl | (rw [qfn_size]; kernel_rfl))) rfl ?_
          refine ⟨?_, Below.setRow hB (by omega) _⟩
          rw [← HF.out, ← HE.out]
          have hs : smallB g 1073741824 = false := HV.out
          rw [hs, Bool.and_false]; rfl
      · have d1 : decide (g k < -1073741824) = true := decide_eq_true (by omega)
        have HV := Lib.hid (show smallB g 1073741824 = false from smallB_no hkn (by omega))
        clear h1
        go_wp2_with (first
          | (rw [zero_quat]; refine wpList_store_row rfl _ _ _ rfl _ rfl _ rfl _ _ r (by first | kernel_rfl | (rw [qfn_size]; kernel_rfl)) (by first | rfl | simp only [qfn_size]) (by first | exact qfn_one _ | rfl) ?_))
        refine bodyPost_ret (results_vec rfl _ _ _ _ _ _ _ rfl (r.row (qfn fun _ => 0)) Tryz.underlying31 rfl (by first | kernel_rfl | (rw [qfn_size]; kernel_rfl))) rfl ?_
        refine ⟨?_, Below.setRow hB (by omega) _⟩
        rw [← HF.out, ← HE.out]
        have hs : smallB g 1073741824 = false := HV.out
        rw [hs, Bool.and_false]; rfl
    · obtain rfl : k = 3 := by omega
      have HV := Lib.hid ((smallB_iff g 1073741824).2 hall.out)
      have c0 : wr.cell? ⟨(w.heap.size + 1), 0, none⟩ = some (.int .i64 (g 0)) := q.cellIs (vfn_get _ (by omega))
      have c1 : wr.cell? ⟨(w.heap.size + 1), 1, none⟩ = some (.int .i64 (g 1)) := q.cellIs (vfn_get _ (by omega))
      have c2 : wr.cell? ⟨(w.heap.size + 1), 2, none⟩ = some (.int .i64 (g 2)) := q.cellIs (vfn_get _ (by omega))
      cases b1
      case false =>
        go_wp2_with (first
          | (refine wpList_load_rowG ?hw _ _ rfl _ rfl _ _ _ _ p Tryz.underlying31 rfl ?hi ?_; (case hw => (first | rfl | (simp [Region.wanted, yielded]; done))); (case hi => (first | kernel_rfl | (rw [qfn_size]; kernel_rfl))))
          | (refine wpList_load_rowG ?hw _ _ rfl _ rfl _ _ _ _ q Tryz.underlying27 rfl ?hi ?_; (case hw => (first | rfl | (simp [Region.wanted, yielded]; done))); (case hi => (first | kernel_rfl | (rw [vfn_size]; kernel_rfl))))
          | (refine wpList_load_rowG ?hw _ _ rfl _ rfl _ _ _ _ r Tryz.underlying31 rfl ?hi ?_; (case hw => (first | rfl | (simp [Region.wanted, yielded]; done))); (case hi => (first | kernel_rfl | (rw [qfn_size]; kernel_rfl))))
          | (go_at_call 85; with_reducible refine (V.out _).mono ?_; rintro e w1 ⟨rfl, hb⟩; replace hB := hB.trans (hb.mono hB.size); replace p := p.below hb p.lt; replace q := q.below hb q.lt; replace r := r.below hb r.lt; clear hb)
          | (rw [zero_quat]; refine wpList_store_row rfl _ _ _ rfl _ rfl _ rfl _ _ r (by first | kernel_rfl | (rw [qfn_size]; kernel_rfl)) (by first | rfl | simp only [qfn_size]) (by first | exact qfn_one _ | rfl) ?_))
        refine bodyPost_ret (results_vec rfl _ _ _ _ _ _ _ rfl (r.row (qfn fun _ => 0)) Tryz.underlying31 rfl (by first | kernel_rfl | (rw [qfn_size]; kernel_rfl))) rfl ?_
        refine ⟨?_, Below.setRow hB (by omega) _⟩
        rw [← HF.out, ← HE.out]; rfl
      case true =>
        rw [← rc.out] at PR
        clear c0 c1 c2
        go_upto_region 8 with (first
          | (refine wpList_load_rowG ?hw _ _ rfl _ rfl _ _ _ _ p Tryz.underlying31 rfl ?hi ?_; (case hw => (first | rfl | (simp [Region.wanted, yielded]; done))); (case hi => (first | kernel_rfl | (rw [qfn_size]; kernel_rfl))))
          | (refine wpList_load_rowG ?hw _ _ rfl _ rfl _ _ _ _ q Tryz.underlying27 rfl ?hi ?_; (case hw => (first | rfl | (simp [Region.wanted, yielded]; done))); (case hi => (first | kernel_rfl | (rw [vfn_size]; kernel_rfl))))
          | (refine wpList_load_rowG ?hw _ _ rfl _ rfl _ _ _ _ r Tryz.underlying31 rfl ?hi ?_; (case hw => (first | rfl | (simp [Region.wanted, yielded]; done))); (case hi => (first | kernel_rfl | (rw [qfn_size]; kernel_rfl))))
          | (go_at_call 85; with_reducible refine (V.out _).mono ?_; rintro e w1 ⟨rfl, hb⟩; replace hB := hB.trans (hb.mono hB.size); replace p := p.below hb p.lt; replace q := q.below hb q.lt; replace r := r.below hb r.lt; clear hb))
        have c0 : w1.cell? ⟨(w.heap.size + 1), 0, none⟩ = some (.int .i64 (g 0)) := q.cellIs (vfn_get _ (by omega))
        have c1 : w1.cell? ⟨(w.heap.size + 1), 1, none⟩ = some (.int .i64 (g 1)) := q.cellIs (vfn_get _ (by omega))
        have c2 : w1.cell? ⟨(w.heap.size + 1), 2, none⟩ = some (.int .i64 (g 2)) := q.cellIs (vfn_get _ (by omega))
        go_upto_region 9 with (first
          | (refine wpList_load_rowG ?hw _ _ rfl _ rfl _ _ _ _ p Tryz.underlying31 rfl ?hi ?_; (case hw => (first | rfl | (simp [Region.wanted, yielded]; done))); (case hi => (first | kernel_rfl | (rw [qfn_size]; kernel_rfl))))
          | (refine wpList_load_rowG ?hw _ _ rfl _ rfl _ _ _ _ q Tryz.underlying27 rfl ?hi ?_; (case hw => (first | rfl | (simp [Region.wanted, yielded]; done))); (case hi => (first | kernel_rfl | (rw [vfn_size]; kernel_rfl))))
          | (refine wpList_load_rowG ?hw _ _ rfl _ rfl _ _ _ _ r Tryz.underlying31 rfl ?hi ?_; (case hw => (first | rfl | (simp [Region.wanted, yielded]; done))); (case hi => (first | kernel_rfl | (rw [qfn_size]; kernel_rfl))))
          | (go_at_call 86; with_reducible refine (PR.out _).mono ?_; rintro e w2 ⟨rfl, hb⟩; replace hB := hB.trans (hb.mono hB.size); replace p := p.below hb p.lt; replace q := q.below hb q.lt; replace r := r.below hb r.lt; clear hb)
          | (rw [zero_quat]; refine wpList_store_row rfl _ _ _ rfl _ rfl _ rfl _ _ (blk.new _ _ _) (by first | kernel_rfl | (rw [qfn_size]; kernel_rfl)) (by first | rfl | simp only [qfn_size]) (by first | exact qfn_one _ | rfl) ?_))
        have m := (blk.new w2 (qfn fun _ => 0) 31).row (qfn Y)
        replace hB := Below.setRow (hB.alloc hB.size (.cells (qfn fun _ => 0) 31)) (g := w2.heap.size) hB.size (qfn Y)
        have hne : ∀ x, x < w2.heap.size → x ≠ w2.heap.size := fun x hx => Nat.ne_of_lt hx
        replace p := (p.alloc (.cells (qfn fun _ => 0) 31)).rowOther (hne _ p.lt) (qfn Y)
        replace q := (q.alloc (.cells (qfn fun _ => 0) 31)).rowOther (hne _ q.lt) (qfn Y)
        replace r := (r.alloc (.cells (qfn fun _ => 0) 31)).rowOther (hne _ r.lt) (qfn Y)
        clear hne
        generalize (w2.alloc (.cells (qfn fun _ => 0) 31)).setRow w2.heap.size (qfn Y) = w2x at *
        generalize w2.heap.size = m_b at *
        go_wp2_with (first
          | (refine wpList_load_rowG ?hw _ _ rfl _ rfl _ _ _ _ p Tryz.underlying31 rfl ?hi ?_; (case hw => (first | rfl | (simp [Region.wanted, yielded]; done))); (case hi => (first | kernel_rfl | (rw [qfn_size]; kernel_rfl))))
          | (refine wpList_load_rowG ?hw _ _ rfl _ rfl _ _ _ _ q Tryz.underlying27 rfl ?hi ?_; (case hw => (first | rfl | (simp [Region.wanted, yielded]; done))); (case hi => (first | kernel_rfl | (rw [vfn_size]; kernel_rfl))))
          | (refine wpList_load_rowG ?hw _ _ rfl _ rfl _ _ _ _ r Tryz.underlying31 rfl ?hi ?_; (case hw => (first | rfl | (simp [Region.wanted, yielded]; done))); (case hi => (first | kernel_rfl | (rw [qfn_size]; kernel_rfl))))
          | (refine wpList_load_rowG ?hw _ _ rfl _ rfl _ _ _ _ m Tryz.underlying31 rfl ?hi ?_; (case hw => (first | rfl | (simp [Region.wanted, yielded]; done))); (case hi => (first | kernel_rfl | (rw [qfn_size]; kernel_rfl))))
          | (go_at_call 118; with_reducible refine (UN.out _).mono ?_; rintro e w3 ⟨rfl, hb⟩; replace hB := hB.trans (hb.mono hB.size); replace p := p.below hb p.lt; replace q := q.below hb q.lt; replace r := r.below hb r.lt; replace m := m.below hb m.lt; clear hb)
          | (refine wpList_store_row rfl _ _ _ rfl _ rfl _ rfl _ _ r (by first | kernel_rfl | (rw [qfn_size]; kernel_rfl)) (by first | rfl | simp only [qfn_size]) (by first | exact qfn_one _ | rfl) ?_))
        refine bodyPost_ret (results_vec rfl _ _ _ _ _ _ _ rfl (r.row (qfn X)) Tryz.underlying31 rfl (by first | kernel_rfl | (rw [qfn_size]; kernel_rfl))) rfl ?_
        refine ⟨?_, Below.setRow hB (by omega) _⟩
        rw [← HF.out, ← HE.out, HV.out]; rfl
end Go.Proofs.YtjnocbjngojigaaGreat
