/-
  Turned attitudes, in the package: Turn.
-/
import Derived.Test.YtkmelddejdikgaaUnitR
import Derived.Test.YtkmelddejdikgaaQEq
import Derived.Test.YtkmelddejdikgaaVecG
set_option linter.unusedSimpArgs false
set_option linter.unusedVariables false
namespace Go.Proofs.Ytkmelddejdikgaa
open Go.RowKit PM Dt
/-- The greatest absolute value, as the program reckons it. -/
def lrgW (f : Nat → Int) : Int := [wrap64 (-f 0), f 1, wrap64 (-f 1), f 2, wrap64 (-f 2), f 3, wrap64 (-f 3)].foldl mx (f 0)
theorem mx_gt {c : Int} (xs : List Int) (x : Int) : (c < xs.foldl mx x) ↔ (c < x ∨ ∃ y ∈ xs, c < y) := by
  have h := mx_lt (c := c + 1) xs x
  constructor
  · intro hc
    apply Classical.byContradiction; intro hn
    have : xs.foldl mx x < c + 1 := h.2 ⟨by
      apply Classical.byContradiction; intro h1; exact hn (.inl (by omega)), fun y hy => by
      apply Classical.byContradiction; intro h1; exact hn (.inr ⟨y, hy, by omega⟩)⟩
    omega
  · intro hc
    apply Classical.byContradiction; intro hn
    obtain ⟨h1, h2⟩ := h.1 (by omega)
    rcases hc with hc | ⟨y, hy, hc⟩
    · omega
    · have := h2 y hy; omega
/-- One and three numbers. -/
def rq (g : Nat → Int) : Nat → Int := fun i => if i = 0 then 1073741824 else if i = 1 then g 0 else if i = 2 then g 1 else g 2
theorem rq_cells (g : Nat → Int) : #[.int .i64 1073741824, .int .i64 (g 0), .int .i64 (g 1), .int .i64 (g 2)] = qfn (rq g) := by unfold qfn; rfl
theorem turn_test (g : Nat → Int) (hI : ∀ i, i < 3 → I64 (g i)) : (decide (1073741824 < lrgW (rq g)) = false ∧ okQ (rq g) = true) ↔ smallB g 1073741824 = true := by
  have e0 : rq g 0 = 1073741824 := rfl
  have e1 : rq g 1 = g 0 := rfl
  have e2 : rq g 2 = g 1 := rfl
  have e3 : rq g 3 = g 2 := rfl
  have i0 := hI 0 (by omega)
  have i1 := hI 1 (by omega)
  have i2 := hI 2 (by omega)
  unfold I64 at i0 i1 i2
  have hl : decide (1073741824 < lrgW (rq g)) = false ↔ (wrap64 (-g 0) ≤ 1073741824 ∧ g 0 ≤ 1073741824 ∧ wrap64 (-g 1) ≤ 1073741824 ∧ g 1 ≤ 1073741824 ∧ wrap64 (-g 2) ≤ 1073741824 ∧ g 2 ≤ 1073741824) := by
    rw [decide_eq_false_iff_not]
    unfold lrgW
    rw [mx_gt, e0, e1, e2, e3]
    simp only [List.mem_cons, List.not_mem_nil, or_false, exists_eq_or_imp, exists_eq_left]
    have : wrap64 (-1073741824) = -1073741824 := by unfold wrap64; omega
    rw [this]
    omega
  have hs : smallB g 1073741824 = true ↔ (-1073741824 ≤ g 0 ∧ g 0 ≤ 1073741824 ∧ -1073741824 ≤ g 1 ∧ g 1 ≤ 1073741824 ∧ -1073741824 ≤ g 2 ∧ g 2 ≤ 1073741824) := by
    unfold smallB sb
    simp only [Bool.and_eq_true, decide_eq_true_eq]
    omega
  have hk : okQ (rq g) = true ↔ (-1099511627776 ≤ g 0 ∧ g 0 ≤ 1099511627776 ∧ -1099511627776 ≤ g 1 ∧ g 1 ≤ 1099511627776 ∧ -1099511627776 ≤ g 2 ∧ g 2 ≤ 1099511627776) := by
    unfold okQ vb
    rw [e0, e1, e2, e3]
    simp only [Bool.and_eq_true, decide_eq_true_eq]
    omega
  rw [hl, hs, hk]
  unfold wrap64
  omega
def turnOk (f g : Nat → Int) : Bool := validQ f && smallB g 1073741824
def turnF (f g : Nat → Int) : Nat → Int := if turnOk f g then qunF (qprodF f (rq g)) else fun _ => 0
def turnE (f g : Nat → Int) : Int := if turnOk f g then qunE (qprodF f (rq g)) else 2
def turn3 (a b c : Bool) : Bool := a && (!b && c)
theorem turnOk_eq (f g : Nat → Int) (hI : ∀ i, i < 3 → I64 (g i)) : turnOk f g = turn3 (validQ f) (decide (1073741824 < lrgW (rq g))) (okQ (rq g)) := by
  have h := turn_test g hI
  unfold turnOk turn3
  congr 1
  cases h1 : decide (1073741824 < lrgW (rq g)) <;> cases h2 : okQ (rq g) <;> cases h3 : smallB g 1073741824 <;> simp_all
set_option maxRecDepth 100000 in
set_option maxHeartbeats 2000000 in
theorem largestW_any (f : Nat → Int) (w : World) : Calls Try.prog 125 #[.agg (qfn f)] w fun e w' => e = .returned (.int .i64 (lrgW f)) ∧ Below w.heap.size w w' := by
  have hM : Hid ([wrap64 (-f 0), f 1, wrap64 (-f 1), f 2, wrap64 (-f 2), f 3, wrap64 (-f 3)].foldl mx (f 0) = lrgW f) := Lib.hid rfl
  generalize lrgW f = M at *
  go_enter Try.func125, Try.ntmps125
  go_upto_region 1 with (fail)
  have p : blk (w.alloc (.cells (qfn f) 23)) w.heap.size (qfn f) 23 := blk.new _ _ _
  have hB : Below w.heap.size w (w.alloc (.cells (qfn f) 23)) := by go_grown
  generalize (w.alloc (.cells (qfn f) 23)) = w0 at *
  have c0 : w0.cell? ⟨w.heap.size, 0, none⟩ = some (.int .i64 (f 0)) := p.cellIs (qfn_get _ (by omega))
  have c1 : w0.cell? ⟨w.heap.size, 1, none⟩ = some (.int .i64 (f 1)) := p.cellIs (qfn_get _ (by omega))
  have c2 : w0.cell? ⟨w.heap.size, 2, none⟩ = some (.int .i64 (f 2)) := p.cellIs (qfn_get _ (by omega))
  have c3 : w0.cell? ⟨w.heap.size, 3, none⟩ = some (.int .i64 (f 3)) := p.cellIs (qfn_get _ (by omega))
  go_wp2_with (refine wpList_max rfl rfl _ _ _ hM.out rfl ?_)
  go_ret
  exact ⟨rfl, hB⟩
set_option maxRecDepth 100000 in
set_option maxHeartbeats 2000000 in
theorem turn_any (f g : Nat → Int) (w : World) (hf : ∀ i, i < 4 → I64 (f i)) (hg : ∀ i, i < 3 → I64 (g i)) : Calls Try.prog 152 #[.agg (qfn f), .agg (vfn g)] w fun e w' => e = .returned (.tuple #[.agg (qfn (turnF f g)), .int .i64 (turnE f g)]) ∧ Below w.heap.size w w' := by
  have V := Lib.hid (fun w => qvalid_any f w hf)
  have LG := Lib.hid (fun w => largestW_any (rq g) w)
  have BD := Lib.hid (fun w => bounded_any (rq g) w)
  have PR := Lib.hid (fun w => qprod_any f (rq g) w)
  have UN := Lib.hid (fun w => qunit_any (qprodF f (rq g)) w)
  unfold turnF turnE
  rw [turnOk_eq f g hg]
  generalize qunF (qprodF f (rq g)) = X at *
  generalize qunE (qprodF f (rq g)) = E at *
  generalize qprodF f (rq g) = Y at *
  generalize qprodE f (rq g) = YE at *
  generalize validQ f = b1 at *
  generalize okQ (rq g) = b3 at *
  generalize lrgW (rq g) = L at *
  obtain ⟨b2, hb2⟩ : ∃ b, decide (1073741824 < L) = b := ⟨_, rfl⟩
  rw [hb2]
  have rc := Lib.hid (rq_cells g)
  clear hf hg
  go_enter Try.func152, Try.ntmps152
  go_upto_region 1 with (fail)
  simp only [zero_quat]
  have p : blk (((w.alloc (.cells (qfn f) 23)).alloc (.cells (vfn g) 31)).alloc (.cells (qfn fun _ => 0) 23)) w.heap.size (qfn f) 23 := ((blk.new _ _ _).alloc _).alloc _
  have q : blk (((w.alloc (.cells (qfn f) 23)).alloc (.cells (vfn g) 31)).alloc (.cells (qfn fun _ => 0) 23)) (w.heap.size + 1) (vfn g) 31 := (blk.new' (by simp)).alloc _
  have r : blk (((w.alloc (.cells (qfn f) 23)).alloc (.cells (vfn g) 31)).alloc (.cells (qfn fun _ => 0) 23)) (w.heap.size + 2) (qfn fun _ => 0) 23 := blk.new' (by simp)
  have hB : Below w.heap.size w (((w.alloc (.cells (qfn f) 23)).alloc (.cells (vfn g) 31)).alloc (.cells (qfn fun _ => 0) 23)) := by go_grown
  generalize (((w.alloc (.cells (qfn f) 23)).alloc (.cells (vfn g) 31)).alloc (.cells (qfn fun _ => 0) 23)) = w0 at *
  have c0 : w0.cell? ⟨(w.heap.size + 1), 0, none⟩ = some (.int .i64 (g 0)) := q.cellIs (vfn_get _ (by omega))
  have c1 : w0.cell? ⟨(w.heap.size + 1), 1, none⟩ = some (.int .i64 (g 1)) := q.cellIs (vfn_get _ (by omega))
  have c2 : w0.cell? ⟨(w.heap.size + 1), 2, none⟩ = some (.int .i64 (g 2)) := q.cellIs (vfn_get _ (by omega))
  generalize rq g = R at *
  go_upto_region 2 with (fail)
  clear c0 c1 c2
  have n := blk.new w0 #[.int .i64 1073741824, .int .i64 (g 0), .int .i64 (g 1), .int .i64 (g 2)] 23
  replace hB := hB.alloc hB.size (.cells #[.int .i64 1073741824, .int .i64 (g 0), .int .i64 (g 1), .int .i64 (g 2)] 23)
  replace p := p.alloc (.cells #[.int .i64 1073741824, .int .i64 (g 0), .int .i64 (g 1), .int .i64 (g 2)] 23)
  replace q := q.alloc (.cells #[.int .i64 1073741824, .int .i64 (g 0), .int .i64 (g 1), .int .i64 (g 2)] 23)
  replace r := r.alloc (.cells #[.int .i64 1073741824, .int .i64 (g 0), .int .i64 (g 1), .int .i64 (g 2)] 23)
  generalize w0.alloc (.cells #[.int .i64 1073741824, .int .i64 (g 0), .int .i64 (g 1), .int .i64 (g 2)] 23) = w0x at *
  rw [rc.out] at n
  generalize w0.heap.size = n_b at *
  cases b1 <;> cases b2 <;> cases b3
  case true.false.true =>
    go_upto_region 5 with (first
      | (refine wpList_load_rowG ?hw _ _ rfl _ rfl _ _ _ _ p Try.underlying23 rfl ?hi ?_; (case hw => (first | rfl | (simp [Region.wanted, yielded]; done))); (case hi => (first | kernel_rfl | (rw [qfn_size]; kernel_rfl))))
      | (refine wpList_load_rowG ?hw _ _ rfl _ rfl _ _ _ _ q Try.underlying31 rfl ?hi ?_; (case hw => (first | rfl | (simp [Region.wanted, yielded]; done))); (case hi => (first | kernel_rfl | (rw [vfn_size]; kernel_rfl))))
      | (refine wpList_load_rowG ?hw _ _ rfl _ rfl _ _ _ _ r Try.underlying23 rfl ?hi ?_; (case hw => (first | rfl | (simp [Region.wanted, yielded]; done))); (case hi => (first | kernel_rfl | (rw [qfn_size]; kernel_rfl))))
      | (refine wpList_load_rowG ?hw _ _ rfl _ rfl _ _ _ _ n Try.underlying23 rfl ?hi ?_; (case hw => (first | rfl | (simp [Region.wanted, yielded]; done))); (case hi => (first | kernel_rfl | (rw [qfn_size]; kernel_rfl))))
      | (go_at_call 33; with_reducible refine (V.out _).mono ?_; rintro e w1 ⟨rfl, hb⟩; replace hB := hB.trans (hb.mono hB.size); replace p := p.below hb p.lt; replace q := q.below hb q.lt; replace r := r.below hb r.lt; replace n := n.below hb n.lt; clear hb)
      | (go_at_call 125; with_reducible refine (LG.out _).mono ?_; rintro e w2 ⟨rfl, hb⟩; replace hB := hB.trans (hb.mono hB.size); replace p := p.below hb p.lt; replace q := q.below hb q.lt; replace r := r.below hb r.lt; replace n := n.below hb n.lt; clear hb)
      | (go_at_call 124; with_reducible refine (BD.out _).mono ?_; rintro e w3 ⟨rfl, hb⟩; replace hB := hB.trans (hb.mono hB.size); replace p := p.below hb p.lt; replace q := q.below hb q.lt; replace r := r.below hb r.lt; replace n := n.below hb n.lt; clear hb)
      | (go_at_call 95; with_reducible refine (PR.out _).mono ?_; rintro e w4 ⟨rfl, hb⟩; replace hB := hB.trans (hb.mono hB.size); replace p := p.below hb p.lt; replace q := q.below hb q.lt; replace r := r.below hb r.lt; replace n := n.below hb n.lt; clear hb)
      | (rw [zero_quat]; refine wpList_store_row rfl _ _ _ rfl _ rfl _ rfl _ _ (blk.new _ _ _) (by first | kernel_rfl | (rw [qfn_size]; kernel_rfl)) (by first | rfl | simp only [qfn_size]) (by first | exact qfn_one _ | rfl) ?_))
    have m := (blk.new w4 (qfn fun _ => 0) 23).row (qfn Y)
    replace hB := Below.setRow (hB.alloc hB.size (.cells (qfn fun _ => 0) 23)) (g := w4.heap.size) hB.size (qfn Y)
    have hne : ∀ x, x < w4.heap.size → x ≠ w4.heap.size := fun x hx => Nat.ne_of_lt hx
    replace p := (p.alloc (.cells (qfn fun _ => 0) 23)).rowOther (hne _ p.lt) (qfn Y)
    replace q := (q.alloc (.cells (qfn fun _ => 0) 23)).rowOther (hne _ q.lt) (qfn Y)
    replace r := (r.alloc (.cells (qfn fun _ => 0) 23)).rowOther (hne _ r.lt) (qfn Y)
    replace n := (n.alloc (.cells (qfn fun _ => 0) 23)).rowOther (hne _ n.lt) (qfn Y)
    clear hne
    generalize (w4.alloc (.cells (qfn fun _ => 0) 23)).setRow w4.heap.size (qfn Y) = w4x at *
    generalize w4.heap.size = m_b at *
    go_wp2_with (first
      | (refine wpList_load_rowG ?hw _ _ rfl _ rfl _ _ _ _ p Try.underlying23 rfl ?hi ?_; (case hw => (first | rfl | (simp [Region.wanted, yielded]; done))); (case hi => (first | kernel_rfl | (rw [qfn_size]; kernel_rfl))))
      | (refine wpList_load_rowG ?hw _ _ rfl _ rfl _ _ _ _ q Try.underlying31 rfl ?hi ?_; (case hw => (first | rfl | (simp [Region.wanted, yielded]; done))); (case hi => (first | kernel_rfl | (rw [vfn_size]; kernel_rfl))))
      | (refine wpList_load_rowG ?hw _ _ rfl _ rfl _ _ _ _ r Try.underlying23 rfl ?hi ?_; (case hw => (first | rfl | (simp [Region.wanted, yielded]; done))); (case hi => (first | kernel_rfl | (rw [qfn_size]; kernel_rfl))))
      | (refine wpList_load_rowG ?hw _ _ rfl _ rfl _ _ _ _ n Try.underlying23 rfl ?hi ?_; (case hw => (first | rfl | (simp [Region.wanted, yielded]; done))); (case hi => (first | kernel_rfl | (rw [qfn_size]; kernel_rfl))))
      | (refine wpList_load_rowG ?hw _ _ rfl _ rfl _ _ _ _ m Try.underlying23 rfl ?hi ?_; (case hw => (first | rfl | (simp [Region.wanted, yielded]; done))); (case hi => (first | kernel_rfl | (rw [qfn_size]; kernel_rfl))))
      | (go_at_call 63; with_reducible refine (UN.out _).mono ?_; rintro e w5 ⟨rfl, hb⟩; replace hB := hB.trans (hb.mono hB.size); replace p := p.below hb p.lt; replace q := q.below hb q.lt; replace r := r.below hb r.lt; replace n := n.below hb n.lt; replace m := m.below hb m.lt; clear hb)
      | (refine wpList_store_row rfl _ _ _ rfl _ rfl _ rfl _ _ r (by first | kernel_rfl | (rw [qfn_size]; kernel_rfl)) (by first | rfl | simp only [qfn_size]) (by first | exact qfn_one _ | rfl) ?_))
    refine bodyPost_ret (results_vec rfl _ _ _ _ _ _ _ rfl (r.row (qfn X)) Try.underlying23 rfl (by first | kernel_rfl | (rw [qfn_size]; kernel_rfl))) rfl ?_
    refine ⟨?_, Below.setRow hB (by omega) _⟩
    rfl
  all_goals
    go_wp2_with (first
      | (refine wpList_load_rowG ?hw _ _ rfl _ rfl _ _ _ _ p Try.underlying23 rfl ?hi ?_; (case hw => (first | rfl | (simp [Region.wanted, yielded]; done))); (case hi => (first | kernel_rfl | (rw [qfn_size]; kernel_rfl))))
      | (refine wpList_load_rowG ?hw _ _ rfl _ rfl _ _ _ _ q Try.underlying31 rfl ?hi ?_; (case hw => (first | rfl | (simp [Region.wanted, yielded]; done))); (case hi => (first | kernel_rfl | (rw [vfn_size]; kernel_rfl))))
      | (refine wpList_load_rowG ?hw _ _ rfl _ rfl _ _ _ _ r Try.underlying23 rfl ?hi ?_; (case hw => (first | rfl | (simp [Region.wanted, yielded]; done))); (case hi => (first | kernel_rfl | (rw [qfn_size]; kernel_rfl))))
      | (refine wpList_load_rowG ?hw _ _ rfl _ rfl _ _ _ _ n Try.underlying23 rfl ?hi ?_; (case hw => (first | rfl | (simp [Region.wanted, yielded]; done))); (case hi => (first | kernel_rfl | (rw [qfn_size]; kernel_rfl))))
      | (go_at_call 33; with_reducible refine (V.out _).mono ?_; rintro e w1 ⟨rfl, hb⟩; replace hB := hB.trans (hb.mono hB.size); replace p := p.below hb p.lt; replace q := q.below hb q.lt; replace r := r.below hb r.lt; replace n := n.below hb n.lt; clear hb)
      | (go_at_call 125; with_reducible refine (LG.out _).mono ?_; rintro e w2 ⟨rfl, hb⟩; replace hB := hB.trans (hb.mono hB.size); replace p := p.below hb p.lt; replace q := q.below hb q.lt; replace r := r.below hb r.lt; replace n := n.below hb n.lt; clear hb)
      | (go_at_call 124; with_reducible refine (BD.out _).mono ?_; rintro e w3 ⟨rfl, hb⟩; replace hB := hB.trans (hb.mono hB.size); replace p := p.below hb p.lt; replace q := q.below hb q.lt; replace r := r.below hb r.lt; replace n := n.below hb n.lt; clear hb)
      | (rw [zero_quat]; refine wpList_store_row rfl _ _ _ rfl _ rfl _ rfl _ _ r (by first | kernel_rfl | (rw [qfn_size]; kernel_rfl)) (by first | rfl | simp only [qfn_size]) (by first | exact qfn_one _ | rfl) ?_))
    refine bodyPost_ret (results_vec rfl _ _ _ _ _ _ _ rfl (r.row (qfn fun _ => 0)) Try.underlying23 rfl (by first | kernel_rfl | (rw [qfn_size]; kernel_rfl))) rfl ?_
    refine ⟨?_, Below.setRow hB (by omega) _⟩
    rfl
end Go.Proofs.Ytkmelddejdikgaa
