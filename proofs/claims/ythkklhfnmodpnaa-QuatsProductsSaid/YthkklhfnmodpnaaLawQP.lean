/-
  Ways on in a statement whose order of evaluation is open, for operations under a guard ('&&'). QuatsProducts returns true: the walk.
-/
import Derived.Test.YthkklhfnmodpnaaDet3
import Derived.Test.YthkklhfnmodpnaaLawQ
set_option linter.unusedSimpArgs false
set_option linter.unusedVariables false
namespace Go.Proofs.Ythkklhfnmodpnaa.Dt
open Go Go.RowKit
section
variable {P : Program}
theorem wpX_takeG {l : List Oper} {n : Nat} {Q : Exit → Act → World → Prop} {f : Nat} {listed : Array Bool} {a : Act} {w : World} (i : Nat) {o : Oper} (v : Value) (ho' : l[i]? = some o)
    (hw : Region.wanted o (yielded l.toArray a.tmps) = true) (hB : takeB l.toArray n i listed = true) (h : ∀ w1, More w w1 → DetR P (More w1) v ((execOp a.eval o).run P w1))
    (h2 : wpXI P l.toArray n Q f (listed.setIfInBounds i true) (a.put o.dst v) w) : wpXI P l.toArray n Q (f + 1) listed a w := by
  have ho : l.toArray[i]? = some o := by simpa using ho'
  intro inv
  simp only [takeB, fitB, Bool.and_eq_true, decide_eq_true_eq] at hB
  obtain ⟨⟨⟨⟨⟨⟨hsel, hn⟩, hs⟩, hc⟩, hin⟩, hr⟩, hf⟩ := hB
  have hr' : i ∈ Region.ready .any l.toArray listed := by simpa using hr
  exact wpX_first ho (Region.noSelect_spec hsel) hs hc hn hin (fun listed' a' w' hL => seqB_ready hL.1) f listed a w inv (Region.free_spec ho hf) hr' (.inl ⟨hw, h⟩) (h2 (inv.set hr' hin))
end
end Go.Proofs.Ythkklhfnmodpnaa.Dt
namespace Go.Proofs.Ythkklhfnmodpnaa
open Go.RowKit PM Dt
set_option maxRecDepth 100000 in
set_option maxHeartbeats 4000000 in
theorem qproducts_any (f g : Nat → Int) (w : World) (hI : ∀ i, i < 4 → I64 (f i)) : Calls Try.prog 4 #[.agg (qfn f), .agg (qfn g)] w fun e w' => e = .returned (.bool true) ∧ Below w.heap.size w w' := by
  have A1 := Lib.hid (fun w => qprod_any f g w)
  have A2 := Lib.hid (fun w => rqprod_any f g w)
  have B1 := Lib.hid (fun w => conj_any f w)
  have B2 := Lib.hid (fun w => rconj_any f w)
  have V1 := Lib.hid (fun w => qvalid_any f w hI)
  have V2 := Lib.hid (fun w => rqvalid_any f w hI)
  clear hI
  generalize qprodF f g = FA at *
  generalize qprodE f g = EA at *
  generalize conjF f = FB at *
  generalize validQ f = vq at *
  have hqA := quat_eq_self FA
  have hqB := quat_eq_self FB
  go_enter Try.func4, Try.ntmps4
  go_upto_region 1 with (fail)
  have p : blk ((w.alloc (.cells (qfn f) 34)).alloc (.cells (qfn g) 34)) w.heap.size (qfn f) 34 := (blk.new _ _ _).alloc _
  have q : blk ((w.alloc (.cells (qfn f) 34)).alloc (.cells (qfn g) 34)) (w.heap.size + 1) (qfn g) 34 := blk.new' (by simp)
  have hB : Below w.heap.size w ((w.alloc (.cells (qfn f) 34)).alloc (.cells (qfn g) 34)) := by go_grown
  generalize (w.alloc (.cells (qfn f) 34)).alloc (.cells (qfn g) 34) = w0 at *
  go_upto_region 2 with (first
    | (refine wpList_load_rowG ?hw _ _ rfl _ rfl _ _ _ _ p Try.underlying34 rfl ?hi ?_; (case hw => (first | rfl | (simp [Region.wanted, yielded]; done))); (case hi => (rw [qfn_size]; kernel_rfl)))
    | (refine wpList_load_rowG ?hw _ _ rfl _ rfl _ _ _ _ q Try.underlying34 rfl ?hi ?_; (case hw => (first | rfl | (simp [Region.wanted, yielded]; done))); (case hi => (rw [qfn_size]; kernel_rfl)))
    | (go_at_call 24; with_reducible refine (A1.out _).mono ?_; rintro e w1 ⟨rfl, hb⟩; replace hB := hB.trans (hb.mono hB.size); replace p := p.below hb p.lt; replace q := q.below hb q.lt; clear hb)
    | (rw [zero_quat]; refine wpList_store_row rfl _ _ _ rfl _ rfl _ rfl _ _ (blk.new _ _ _) (by rw [qfn_size]; kernel_rfl) (by simp only [qfn_size]) (qfn_one _) ?_))
  have r1 := (blk.new w1 (qfn fun _ => 0) 34).row (qfn FA)
  replace hB := Below.setRow (hB.alloc hB.size (.cells (qfn fun _ => 0) 34)) (g := w1.heap.size) hB.size (qfn FA)
  have hne : ∀ x, x < w1.heap.size → x ≠ w1.heap.size := fun x hx => Nat.ne_of_lt hx
  replace p := (p.alloc (.cells (qfn fun _ => 0) 34)).rowOther (hne _ p.lt) (qfn FA)
  replace q := (q.alloc (.cells (qfn fun _ => 0) 34)).rowOther (hne _ q.lt) (qfn FA)
  clear hne
  generalize (w1.alloc (.cells (qfn fun _ => 0) 34)).setRow w1.heap.size (qfn FA) = w1x at *
  generalize w1.heap.size = r1_b at *
  go_upto_region 3 with (first
    | (refine wpList_load_rowG ?hw _ _ rfl _ rfl _ _ _ _ p Try.underlying34 rfl ?hi ?_; (case hw => (first | rfl | (simp [Region.wanted, yielded]; done))); (case hi => (rw [qfn_size]; kernel_rfl)))
    | (refine wpList_load_rowG ?hw _ _ rfl _ rfl _ _ _ _ q Try.underlying34 rfl ?hi ?_; (case hw => (first | rfl | (simp [Region.wanted, yielded]; done))); (case hi => (rw [qfn_size]; kernel_rfl)))
    | (go_at_call 25; with_reducible refine (A2.out _).mono ?_; rintro e w2 ⟨rfl, hb⟩; replace hB := hB.trans (hb.mono hB.size); replace p := p.below hb p.lt; replace q := q.below hb q.lt; replace r1 := r1.below hb r1.lt; clear hb)
    | (rw [zero_quat]; refine wpList_store_row rfl _ _ _ rfl _ rfl _ rfl _ _ (blk.new _ _ _) (by rw [qfn_size]; kernel_rfl) (by simp only [qfn_size]) (qfn_one _) ?_))
  have r2 := (blk.new w2 (qfn fun _ => 0) 34).row (qfn FA)
  replace hB := Below.setRow (hB.alloc hB.size (.cells (qfn fun _ => 0) 34)) (g := w2.heap.size) hB.size (qfn FA)
  have hne : ∀ x, x < w2.heap.size → x ≠ w2.heap.size := fun x hx => Nat.ne_of_lt hx
  replace p := (p.alloc (.cells (qfn fun _ => 0) 34)).rowOther (hne _ p.lt) (qfn FA)
  replace q := (q.alloc (.cells (qfn fun _ => 0) 34)).rowOther (hne _ q.lt) (qfn FA)
  replace r1 := (r1.alloc (.cells (qfn fun _ => 0) 34)).rowOther (hne _ r1.lt) (qfn FA)
  clear hne
  generalize (w2.alloc (.cells (qfn fun _ => 0) 34)).setRow w2.heap.size (qfn FA) = w2x at *
  generalize w2.heap.size = r2_b at *
  refine wp_region_X 25 (by kernel_rfl) (by kernel_rfl) ?_
  replace p := p.drew
  replace r1 := r1.drew
  replace r2 := r2.drew
  replace hB : Below w.heap.size w w2x.drew := hB.drew
  generalize w2x.drew = wo at *
  refine wpX_takeG 0 (.agg (qfn FA)) rfl (by first | rfl | simp [Region.wanted, yielded]) (by kernel_rfl) (fun w1 h1 => detR_row _ _ rfl _ rfl _ _ _ (r1.below h1 r1.lt) Try.underlying34 rfl (by rw [qfn_size]; kernel_rfl) rfl) ?_
  simp only [Act.put, List.setIfInBounds_toArray, List.set_cons_zero, List.set_cons_succ]
  refine wpX_takeG 1 (.agg (qfn FA)) rfl (by first | rfl | simp [Region.wanted, yielded]) (by kernel_rfl) (fun w1 h1 => detR_row _ _ rfl _ rfl _ _ _ (r2.below h1 r2.lt) Try.underlying34 rfl (by rw [qfn_size]; kernel_rfl) rfl) ?_
  simp only [Act.put, List.setIfInBounds_toArray, List.set_cons_zero, List.set_cons_succ]
  refine wpX_takeG 2 (.bool true) rfl (by first | rfl | simp [Region.wanted, yielded]) (by kernel_rfl) (fun w1 h1 => by go_simp; first | exact ⟨rfl, Below.refl _ _⟩ | (simp only [hqA, hqB]; exact ⟨rfl, Below.refl _ _⟩) | (simp; exact Below.refl _ _)) ?_
  simp only [Act.put, List.setIfInBounds_toArray, List.set_cons_zero, List.set_cons_succ]
  refine wpX_takeG 3 (.bool true) rfl (by first | rfl | simp [Region.wanted, yielded]) (by kernel_rfl) (fun w1 h1 => by go_simp; exact ⟨rfl, Below.refl _ _⟩) ?_
  simp only [Act.put, List.setIfInBounds_toArray, List.set_cons_zero, List.set_cons_succ]
  refine wpX_takeG 4 (.int .i64 EA) rfl (by first | rfl | simp [Region.wanted, yielded]) (by kernel_rfl) (fun w1 h1 => by go_simp; exact ⟨rfl, Below.refl _ _⟩) ?_
  simp only [Act.put, List.setIfInBounds_toArray, List.set_cons_zero, List.set_cons_succ]
  refine wpX_takeG 5 (.int .i64 EA) rfl (by first | rfl | simp [Region.wanted, yielded]) (by kernel_rfl) (fun w1 h1 => by go_simp; exact ⟨rfl, Below.refl _ _⟩) ?_
  simp only [Act.put, List.setIfInBounds_toArray, List.set_cons_zero, List.set_cons_succ]
  refine wpX_takeG 6 (.bool true) rfl (by first | rfl | simp [Region.wanted, yielded]) (by kernel_rfl) (fun w1 h1 => by go_simp; first | exact ⟨rfl, Below.refl _ _⟩ | (simp only [hqA, hqB]; exact ⟨rfl, Below.refl _ _⟩) | (simp; exact Below.refl _ _)) ?_
  simp only [Act.put, List.setIfInBounds_toArray, List.set_cons_zero, List.set_cons_succ]
  refine wpX_takeG 7 (.bool true) rfl (by first | rfl | simp [Region.wanted, yielded]) (by kernel_rfl) (fun w1 h1 => by go_simp; exact ⟨rfl, Below.refl _ _⟩) ?_
  simp only [Act.put, List.setIfInBounds_toArray, List.set_cons_zero, List.set_cons_succ]
  refine wpX_takeG 8 (.bool true) rfl (by first | rfl | simp [Region.wanted, yielded]) (by kernel_rfl) (fun w1 h1 => by go_simp; exact ⟨rfl, Below.refl _ _⟩) ?_
  simp only [Act.put, List.setIfInBounds_toArray, List.set_cons_zero, List.set_cons_succ]
  refine wpX_takeG 9 (.agg (qfn f)) rfl (by first | rfl | simp [Region.wanted, yielded]) (by kernel_rfl) (fun w1 h1 => detR_row _ _ rfl _ rfl _ _ _ (p.below h1 p.lt) Try.underlying34 rfl (by rw [qfn_size]; kernel_rfl) rfl) ?_
  simp only [Act.put, List.setIfInBounds_toArray, List.set_cons_zero, List.set_cons_succ]
  refine wpX_takeG 10 (.agg (qfn FB)) rfl (by first | rfl | simp [Region.wanted, yielded]) (by kernel_rfl) (fun w1 h1 => ?_) ?_
  · go_simp
    refine (B1.out _).mono ?_
    rintro e wz ⟨rfl, h2⟩
    exact ⟨rfl, h2⟩
  simp only [Act.put, List.setIfInBounds_toArray, List.set_cons_zero, List.set_cons_succ]
  refine wpX_takeG 11 (.agg (qfn f)) rfl (by first | rfl | simp [Region.wanted, yielded]) (by kernel_rfl) (fun w1 h1 => detR_row _ _ rfl _ rfl _ _ _ (p.below h1 p.lt) Try.underlying34 rfl (by rw [qfn_size]; kernel_rfl) rfl) ?_
  simp only [Act.put, List.setIfInBounds_toArray, List.set_cons_zero, List.set_cons_succ]
  refine wpX_takeG 12 (.agg (qfn FB)) rfl (by first | rfl | simp [Region.wanted, yielded]) (by kernel_rfl) (fun w1 h1 => ?_) ?_
  · go_simp
    refine (B2.out _).mono ?_
    rintro e wz ⟨rfl, h2⟩
    exact ⟨rfl, h2⟩
  simp only [Act.put, List.setIfInBounds_toArray, List.set_cons_zero, List.set_cons_succ]
  refine wpX_takeG 13 (.bool true) rfl (by first | rfl | simp [Region.wanted, yielded]) (by kernel_rfl) (fun w1 h1 => by go_simp; first | exact ⟨rfl, Below.refl _ _⟩ | (simp only [hqA, hqB]; exact ⟨rfl, Below.refl _ _⟩) | (simp; exact Below.refl _ _)) ?_
  simp only [Act.put, List.setIfInBounds_toArray, List.set_cons_zero, List.set_cons_succ]
  refine wpX_takeG 14 (.bool true) rfl (by first | rfl | simp [Region.wanted, yielded]) (by kernel_rfl) (fun w1 h1 => by go_simp; exact ⟨rfl, Below.refl _ _⟩) ?_
  simp only [Act.put, List.setIfInBounds_toArray, List.set_cons_zero, List.set_cons_succ]
  refine wpX_takeG 15 (.bool true) rfl (by first | rfl | simp [Region.wanted, yielded]) (by kernel_rfl) (fun w1 h1 => by go_simp; exact ⟨rfl, Below.refl _ _⟩) ?_
  simp only [Act.put, List.setIfInBounds_toArray, List.set_cons_zero, List.set_cons_succ]
  refine wpX_takeG 16 (.agg (qfn f)) rfl (by first | rfl | simp [Region.wanted, yielded]) (by kernel_rfl) (fun w1 h1 => detR_row _ _ rfl _ rfl _ _ _ (p.below h1 p.lt) Try.underlying34 rfl (by rw [qfn_size]; kernel_rfl) rfl) ?_
  simp only [Act.put, List.setIfInBounds_toArray, List.set_cons_zero, List.set_cons_succ]
  refine wpX_takeG 17 (.bool vq) rfl (by first | rfl | simp [Region.wanted, yielded]) (by kernel_rfl) (fun w1 h1 => ?_) ?_
  · go_simp
    refine (V1.out _).mono ?_
    rintro e wz ⟨rfl, h2⟩
    exact ⟨rfl, h2⟩
  simp only [Act.put, List.setIfInBounds_toArray, List.set_cons_zero, List.set_cons_succ]
  refine wpX_takeG 18 (.agg (qfn f)) rfl (by first | rfl | simp [Region.wanted, yielded]) (by kernel_rfl) (fun w1 h1 => detR_row _ _ rfl _ rfl _ _ _ (p.below h1 p.lt) Try.underlying34 rfl (by rw [qfn_size]; kernel_rfl) rfl) ?_
  simp only [Act.put, List.setIfInBounds_toArray, List.set_cons_zero, List.set_cons_succ]
  refine wpX_takeG 19 (.bool vq) rfl (by first | rfl | simp [Region.wanted, yielded]) (by kernel_rfl) (fun w1 h1 => ?_) ?_
  · go_simp
    refine (V2.out _).mono ?_
    rintro e wz ⟨rfl, h2⟩
    exact ⟨rfl, h2⟩
  simp only [Act.put, List.setIfInBounds_toArray, List.set_cons_zero, List.set_cons_succ]
  refine wpX_takeG 20 (.bool true) rfl (by first | rfl | simp [Region.wanted, yielded]) (by kernel_rfl) (fun w1 h1 => by go_simp; first | exact ⟨rfl, Below.refl _ _⟩ | (simp only [hqA, hqB]; exact ⟨rfl, Below.refl _ _⟩) | (simp; exact Below.refl _ _)) ?_
  simp only [Act.put, List.setIfInBounds_toArray, List.set_cons_zero, List.set_cons_succ]
  refine wpX_takeG 21 (.bool true) rfl (by first | rfl | simp [Region.wanted, yielded]) (by kernel_rfl) (fun w1 h1 => by go_simp; exact ⟨rfl, Below.refl _ _⟩) ?_
  simp only [Act.put, List.setIfInBounds_toArray, List.set_cons_zero, List.set_cons_succ]
  refine wpX_takeG 22 (.bool true) rfl (by first | rfl | simp [Region.wanted, yielded]) (by kernel_rfl) (fun w1 h1 => by go_simp; exact ⟨rfl, Below.refl _ _⟩) ?_
  simp only [Act.put, List.setIfInBounds_toArray, List.set_cons_zero, List.set_cons_succ]
  refine wpX_takeG 23 (.bool true) rfl (by first | rfl | simp [Region.wanted, yielded]) (by kernel_rfl) (fun w1 h1 => ?_) ?_
  · go_simp
    refine (awakeQ_any _).mono ?_
    rintro e wz ⟨rfl, h2⟩
    exact ⟨rfl, h2⟩
  simp only [Act.put, List.setIfInBounds_toArray, List.set_cons_zero, List.set_cons_succ]
  refine wpX_takeG 24 (.bool true) rfl (by first | rfl | simp [Region.wanted, yielded]) (by kernel_rfl) (fun w1 h1 => by go_simp; exact ⟨rfl, Below.refl _ _⟩) ?_
  simp only [Act.put, List.setIfInBounds_toArray, List.set_cons_zero, List.set_cons_succ]
  refine wpX_tail (by kernel_rfl) (fun wt ht => ?_)
  simp only [List.drop_succ_cons, List.drop_zero]
  replace hB := hB.trans (ht.mono hB.size)
  go_wp2_with (fail)
  go_ret
  exact ⟨rfl, hB⟩
end Go.Proofs.Ythkklhfnmodpnaa
