/-
  QuatsKeeps returns true.
-/
import Derived.Test.YtcgpcehdeihalaaLawQL
import Derived.Test.YtcgpcehdeihalaaKeep2
import Derived.Test.YtcgpcehdeihalaaApart
set_option linter.unusedSimpArgs false
set_option linter.unusedVariables false
namespace Go.Proofs.Ytcgpcehdeihalaa
open Go.RowKit PM Dt
set_option maxRecDepth 100000 in
set_option maxHeartbeats 4000000 in
theorem qkeeps_walk (f v u r x y : Nat → Int) (n m l : Int) (b : Bool) (w : World) (U1 : Hid (∀ w, Calls Try.prog 13 #[.agg (qfn f)] w fun e w' => e = .returned (.tuple #[.agg (qfn u), .bool b]) ∧ Below w.heap.size w w')) (PK : Hid (smallB v 549755813888 = true → b = true → Hid (∀ w, Calls Try.prog 18 #[.agg (qfn u), .agg (vfn v)] w fun e w' => e = .returned (.tuple #[.agg (vfn r), .int .i64 0]) ∧ Below w.heap.size w w') ∧ Hid (∀ w, Calls Try.prog 19 #[.agg (qfn u), .agg (vfn v)] w fun e w' => e = .returned (.tuple #[.agg (vfn x), .int .i64 0]) ∧ Below w.heap.size w w') ∧ Hid (∀ w, Calls Try.prog 19 #[.agg (qfn u), .agg (vfn r)] w fun e w' => e = .returned (.tuple #[.agg (vfn y), .int .i64 0]) ∧ Below w.heap.size w w') ∧ Hid (∀ w, Calls Try.prog 20 #[.agg (vfn v)] w fun e w' => e = .returned (.tuple #[.int .i64 n, .int .i64 0]) ∧ Below w.heap.size w w') ∧ Hid (∀ w, Calls Try.prog 20 #[.agg (vfn r)] w fun e w' => e = .returned (.tuple #[.int .i64 m, .int .i64 0]) ∧ Below w.heap.size w w') ∧ Hid (∀ w, Calls Try.prog 20 #[.agg (vfn x)] w fun e w' => e = .returned (.tuple #[.int .i64 l, .int .i64 0]) ∧ Below w.heap.size w w') ∧ Hid ((0 ≤ n ∧ n ≤ 2199023255552 ∧ 0 ≤ m ∧ m ≤ 2199023255552 ∧ 0 ≤ l ∧ l ≤ 2199023255552 ∧ m ≤ n + (n / 67108864 + 2) ∧ n ≤ m + (n / 67108864 + 2) ∧ l ≤ n + (n / 67108864 + 2) ∧ n ≤ l + (n / 67108864 + 2)) ∧ ∀ i, i < 3 → (-1099511627776 ≤ y i ∧ y i ≤ 1099511627776 ∧ -1099511627776 ≤ v i ∧ v i ≤ 1099511627776 ∧ y i ≤ v i + (n / 33554432 + 3) ∧ v i ≤ y i + (n / 33554432 + 3))))) : Calls Try.prog 4 #[.agg (qfn f), .agg (vfn v)] w fun e w' => e = .returned (.bool true) ∧ Below w.heap.size w w' := by
  go_enter Try.func4, Try.ntmps4
  go_upto_region 1 with (fail)
  have p : blk ((w.alloc (.cells (qfn f) 23)).alloc (.cells (vfn v) 25)) w.heap.size (qfn f) 23 := (blk.new _ _ _).alloc _
  have q : blk ((w.alloc (.cells (qfn f) 23)).alloc (.cells (vfn v) 25)) (w.heap.size + 1) (vfn v) 25 := blk.new' (by simp)
  have hB : Below w.heap.size w ((w.alloc (.cells (qfn f) 23)).alloc (.cells (vfn v) 25)) := by go_grown
  generalize ((w.alloc (.cells (qfn f) 23)).alloc (.cells (vfn v) 25)) = w0 at *
  go_wp2_with (fail)
  go_loopg [5] 3 (fun g_ iv wr => ∃ k : Nat, g_ + k = 3 ∧ iv = .int .i64 k ∧ Hid (∀ j, j < k → sb 549755813888 (v j) = true) ∧ blk wr w.heap.size (qfn f) 23 ∧ blk wr (w.heap.size + 1) (vfn v) 25 ∧ Below w.heap.size w wr)
  case atStart => exact ⟨0, rfl, rfl, fun j hj => by omega, p, q, hB⟩
  case round =>
    clear p q hB
    obtain ⟨k, hk, rfl, hall, p, q, hB⟩ := hrel
    by_cases hkn : k < 3
    · have hdk : decide ((k : Int) < 3) = true := decide_eq_true (by omega)
      have hdk' : decide (k < 3) = true := decide_eq_true (by omega)
      have hk3 : (k : Int) < 3 := by omega
      have hw3 : IntKind.i64.wrap ((k : Int) + 1) = ((k + 1 : Nat) : Int) := by rw [IntKind.wrap_i64]; omega
      have ck : wr.cell? ⟨(w.heap.size + 1), k, none⟩ = some (.int .i64 (v k)) := q.cellIs (vfn_get _ (hkn))
      by_cases h1 : -549755813888 ≤ v k
      · have d1 : decide (v k < -549755813888) = false := decide_eq_false (by omega)
        by_cases h2 : v k ≤ 549755813888
        · have d2 : decide (549755813888 < v k) = false := decide_eq_false (by omega)
          have HV := Lib.hid ((sb_iff _ _).2 ⟨h1, h2⟩)
          clear h1 h2
          go_wp2_with (fail)
          go_roundg (3 - (k + 1))
          case rel =>
            refine ⟨k + 1, by omega, rfl, fun j hj => ?_, p, q, hB⟩
            by_cases e : j = k
            · subst e; exact HV.out
            · exact hall.out j (by omega)
          case measure => omega
        · have d2 : decide (549755813888 < v k) = true := decide_eq_true (by omega)
          clear h1 h2
          go_wp2_with (first
            | (go_at_call 14; refine (awakeQ_any _).mono ?_; rintro e wx ⟨rfl, hb⟩; replace hB := hB.trans (hb.mono hB.size); clear hb))
          go_ret
          exact ⟨rfl, hB⟩
      · have d1 : decide (v k < -549755813888) = true := decide_eq_true (by omega)
        clear h1
        go_wp2_with (first
          | (go_at_call 14; refine (awakeQ_any _).mono ?_; rintro e wx ⟨rfl, hb⟩; replace hB := hB.trans (hb.mono hB.size); clear hb))
        go_ret
        exact ⟨rfl, hB⟩
    · obtain rfl : k = 3 := by omega
      have HV := Lib.hid ((smallB_iff v 549755813888).2 hall.out)
      go_upto_region 7 with (first
        | (refine wpList_load_rowG ?hw _ _ rfl _ rfl _ _ _ _ p Try.underlying23 rfl ?hi ?_; (case hw => (first | rfl | (simp [Region.wanted, yielded]; done))); (case hi => (first | kernel_rfl | (rw [qfn_size]; kernel_rfl))))
        | (refine wpList_load_rowG ?hw _ _ rfl _ rfl _ _ _ _ q Try.underlying25 rfl ?hi ?_; (case hw => (first | rfl | (simp [Region.wanted, yielded]; done))); (case hi => (first | kernel_rfl | (rw [vfn_size]; kernel_rfl))))
        | (go_at_call 13; with_reducible refine (U1.out _).mono ?_; rintro e w1 ⟨rfl, hb⟩; replace hB := hB.trans (hb.mono hB.size); replace p := p.below hb p.lt; replace q := q.below hb q.lt; clear hb)
        | (rw [zero_quat]; refine wpList_store_row rfl _ _ _ rfl _ rfl _ rfl _ _ (blk.new _ _ _) (by first | kernel_rfl | (rw [qfn_size]; kernel_rfl)) (by first | rfl | simp only [qfn_size]) (by first | exact qfn_one _ | rfl) ?_))
      have a := (blk.new w1 (qfn fun _ => 0) 23).row (qfn u)
      replace hB := Below.setRow (hB.alloc hB.size (.cells (qfn fun _ => 0) 23)) (g := w1.heap.size) hB.size (qfn u)
      have hne : ∀ x, x < w1.heap.size → x ≠ w1.heap.size := fun x hx => Nat.ne_of_lt hx
      replace p := (p.alloc (.cells (qfn fun _ => 0) 23)).rowOther (hne _ p.lt) (qfn u)
      replace q := (q.alloc (.cells (qfn fun _ => 0) 23)).rowOther (hne _ q.lt) (qfn u)
      clear hne
      generalize (w1.alloc (.cells (qfn fun _ => 0) 23)).setRow w1.heap.size (qfn u) = w1x at *
      generalize w1.heap.size = a_b at *
      cases b
      case false =>
        go_wp2_with (first
          | (go_at_call 14; refine (awakeQ_any _).mono ?_; rintro e wx ⟨rfl, hb⟩; replace hB := hB.trans (hb.mono hB.size); clear hb))
        go_ret
        exact ⟨rfl, hB⟩
      case true =>
        obtain ⟨C1, C2, C3, C4, C5, C6, C7⟩ := PK.out HV.out rfl
        clear PK U1 hall
        go_upto_region 10 with (first
          | (refine wpList_load_rowG ?hw _ _ rfl _ rfl _ _ _ _ p Try.underlying23 rfl ?hi ?_; (case hw => (first | rfl | (simp [Region.wanted, yielded]; done))); (case hi => (first | kernel_rfl | (rw [qfn_size]; kernel_rfl))))
          | (refine wpList_load_rowG ?hw _ _ rfl _ rfl _ _ _ _ q Try.underlying25 rfl ?hi ?_; (case hw => (first | rfl | (simp [Region.wanted, yielded]; done))); (case hi => (first | kernel_rfl | (rw [vfn_size]; kernel_rfl))))
          | (refine wpList_load_rowG ?hw _ _ rfl _ rfl _ _ _ _ a Try.underlying23 rfl ?hi ?_; (case hw => (first | rfl | (simp [Region.wanted, yielded]; done))); (case hi => (first | kernel_rfl | (rw [qfn_size]; kernel_rfl))))
          | (go_at_call 18; with_reducible refine (C1.out _).mono ?_; rintro e w2 ⟨rfl, hb⟩; replace hB := hB.trans (hb.mono hB.size); replace p := p.below hb p.lt; replace q := q.below hb q.lt; replace a := a.below hb a.lt; clear hb)
          | (rw [zero_vec]; refine wpList_store_row rfl _ _ _ rfl _ rfl _ rfl _ _ (blk.new _ _ _) (by first | kernel_rfl | (rw [vfn_size]; kernel_rfl)) (by first | rfl | simp only [vfn_size]) (by first | exact vfn_one _ | rfl) ?_))
        have b := (blk.new w2 (vfn fun _ => 0) 25).row (vfn r)
        replace hB := Below.setRow (hB.alloc hB.size (.cells (vfn fun _ => 0) 25)) (g := w2.heap.size) hB.size (vfn r)
        have hne : ∀ x, x < w2.heap.size → x ≠ w2.heap.size := fun x hx => Nat.ne_of_lt hx
        replace p := (p.alloc (.cells (vfn fun _ => 0) 25)).rowOther (hne _ p.lt) (vfn r)
        replace q := (q.alloc (.cells (vfn fun _ => 0) 25)).rowOther (hne _ q.lt) (vfn r)
        replace a := (a.alloc (.cells (vfn fun _ => 0) 25)).rowOther (hne _ a.lt) (vfn r)
        clear hne
        generalize (w2.alloc (.cells (vfn fun _ => 0) 25)).setRow w2.heap.size (vfn r) = w2x at *
        generalize w2.heap.size = b_b at *
        go_upto_region 11 with (first
          | (refine wpList_load_rowG ?hw _ _ rfl _ rfl _ _ _ _ p Try.underlying23 rfl ?hi ?_; (case hw => (first | rfl | (simp [Region.wanted, yielded]; done))); (case hi => (first | kernel_rfl | (rw [qfn_size]; kernel_rfl))))
          | (refine wpList_load_rowG ?hw _ _ rfl _ rfl _ _ _ _ q Try.underlying25 rfl ?hi ?_; (case hw => (first | rfl | (simp [Region.wanted, yielded]; done))); (case hi => (first | kernel_rfl | (rw [vfn_size]; kernel_rfl))))
          | (refine wpList_load_rowG ?hw _ _ rfl _ rfl _ _ _ _ a Try.underlying23 rfl ?hi ?_; (case hw => (first | rfl | (simp [Region.wanted, yielded]; done))); (case hi => (first | kernel_rfl | (rw [qfn_size]; kernel_rfl))))
          | (refine wpList_load_rowG ?hw _ _ rfl _ rfl _ _ _ _ b Try.underlying25 rfl ?hi ?_; (case hw => (first | rfl | (simp [Region.wanted, yielded]; done))); (case hi => (first | kernel_rfl | (rw [vfn_size]; kernel_rfl))))
          | (go_at_call 19; with_reducible refine (C2.out _).mono ?_; rintro e w3 ⟨rfl, hb⟩; replace hB := hB.trans (hb.mono hB.size); replace p := p.below hb p.lt; replace q := q.below hb q.lt; replace a := a.below hb a.lt; replace b := b.below hb b.lt; clear hb)
          | (rw [zero_vec]; refine wpList_store_row rfl _ _ _ rfl _ rfl _ rfl _ _ (blk.new _ _ _) (by first | kernel_rfl | (rw [vfn_size]; kernel_rfl)) (by first | rfl | simp only [vfn_size]) (by first | exact vfn_one _ | rfl) ?_))
        have c := (blk.new w3 (vfn fun _ => 0) 25).row (vfn x)
        replace hB := Below.setRow (hB.alloc hB.size (.cells (vfn fun _ => 0) 25)) (g := w3.heap.size) hB.size (vfn x)
        have hne : ∀ x, x < w3.heap.size → x ≠ w3.heap.size := fun x hx => Nat.ne_of_lt hx
        replace p := (p.alloc (.cells (vfn fun _ => 0) 25)).rowOther (hne _ p.lt) (vfn x)
        replace q := (q.alloc (.cells (vfn fun _ => 0) 25)).rowOther (hne _ q.lt) (vfn x)
        replace a := (a.alloc (.cells (vfn fun _ => 0) 25)).rowOther (hne _ a.lt) (vfn x)
        replace b := (b.alloc (.cells (vfn fun _ => 0) 25)).rowOther (hne _ b.lt) (vfn x)
        clear hne
        generalize (w3.alloc (.cells (vfn fun _ => 0) 25)).setRow w3.heap.size (vfn x) = w3x at *
        generalize w3.heap.size = c_b at *
        go_upto_region 12 with (first
          | (refine wpList_load_rowG ?hw _ _ rfl _ rfl _ _ _ _ p Try.underlying23 rfl ?hi ?_; (case hw => (first | rfl | (simp [Region.wanted, yielded]; done))); (case hi => (first | kernel_rfl | (rw [qfn_size]; kernel_rfl))))
          | (refine wpList_load_rowG ?hw _ _ rfl _ rfl _ _ _ _ q Try.underlying25 rfl ?hi ?_; (case hw => (first | rfl | (simp [Region.wanted, yielded]; done))); (case hi => (first | kernel_rfl | (rw [vfn_size]; kernel_rfl))))
          | (refine wpList_load_rowG ?hw _ _ rfl _ rfl _ _ _ _ a Try.underlying23 rfl ?hi ?_; (case hw => (first | rfl | (simp [Region.wanted, yielded]; done))); (case hi => (first | kernel_rfl | (rw [qfn_size]; kernel_rfl))))
          | (refine wpList_load_rowG ?hw _ _ rfl _ rfl _ _ _ _ b Try.underlying25 rfl ?hi ?_; (case hw => (first | rfl | (simp [Region.wanted, yielded]; done))); (case hi => (first | kernel_rfl | (rw [vfn_size]; kernel_rfl))))
          | (refine wpList_load_rowG ?hw _ _ rfl _ rfl _ _ _ _ c Try.underlying25 rfl ?hi ?_; (case hw => (first | rfl | (simp [Region.wanted, yielded]; done))); (case hi => (first | kernel_rfl | (rw [vfn_size]; kernel_rfl))))
          | (go_at_call 19; with_reducible refine (C3.out _).mono ?_; rintro e w4 ⟨rfl, hb⟩; replace hB := hB.trans (hb.mono hB.size); replace p := p.below hb p.lt; replace q := q.below hb q.lt; replace a := a.below hb a.lt; replace b := b.below hb b.lt; replace c := c.below hb c.lt; clear hb)
          | (rw [zero_vec]; refine wpList_store_row rfl _ _ _ rfl _ rfl _ rfl _ _ (blk.new _ _ _) (by first | kernel_rfl | (rw [vfn_size]; kernel_rfl)) (by first | rfl | simp only [vfn_size]) (by first | exact vfn_one _ | rfl) ?_))
        have d := (blk.new w4 (vfn fun _ => 0) 25).row (vfn y)
        replace hB := Below.setRow (hB.alloc hB.size (.cells (vfn fun _ => 0) 25)) (g := w4.heap.size) hB.size (vfn y)
        have hne : ∀ x, x < w4.heap.size → x ≠ w4.heap.size := fun x hx => Nat.ne_of_lt hx
        replace p := (p.alloc (.cells (vfn fun _ => 0) 25)).rowOther (hne _ p.lt) (vfn y)
        replace q := (q.alloc (.cells (vfn fun _ => 0) 25)).rowOther (hne _ q.lt) (vfn y)
        replace a := (a.alloc (.cells (vfn fun _ => 0) 25)).rowOther (hne _ a.lt) (vfn y)
        replace b := (b.alloc (.cells (vfn fun _ => 0) 25)).rowOther (hne _ b.lt) (vfn y)
        replace c := (c.alloc (.cells (vfn fun _ => 0) 25)).rowOther (hne _ c.lt) (vfn y)
        clear hne
        generalize (w4.alloc (.cells (vfn fun _ => 0) 25)).setRow w4.heap.size (vfn y) = w4x at *
        generalize w4.heap.size = d_b at *
        go_upto_region 13 with (first
          | (refine wpList_load_rowG ?hw _ _ rfl _ rfl _ _ _ _ p Try.underlying23 rfl ?hi ?_; (case hw => (first | rfl | (simp [Region.wanted, yielded]; done))); (case hi => (first | kernel_rfl | (rw [qfn_size]; kernel_rfl))))
          | (refine wpList_load_rowG ?hw _ _ rfl _ rfl _ _ _ _ q Try.underlying25 rfl ?hi ?_; (case hw => (first | rfl | (simp [Region.wanted, yielded]; done))); (case hi => (first | kernel_rfl | (rw [vfn_size]; kernel_rfl))))
          | (refine wpList_load_rowG ?hw _ _ rfl _ rfl _ _ _ _ a Try.underlying23 rfl ?hi ?_; (case hw => (first | rfl | (simp [Region.wanted, yielded]; done))); (case hi => (first | kernel_rfl | (rw [qfn_size]; kernel_rfl))))
          | (refine wpList_load_rowG ?hw _ _ rfl _ rfl _ _ _ _ b Try.underlying25 rfl ?hi ?_; (case hw => (first | rfl | (simp [Region.wanted, yielded]; done))); (case hi => (first | kernel_rfl | (rw [vfn_size]; kernel_rfl))))
          | (refine wpList_load_rowG ?hw _ _ rfl _ rfl _ _ _ _ c Try.underlying25 rfl ?hi ?_; (case hw => (first | rfl | (simp [Region.wanted, yielded]; done))); (case hi => (first | kernel_rfl | (rw [vfn_size]; kernel_rfl))))
          | (refine wpList_load_rowG ?hw _ _ rfl _ rfl _ _ _ _ d Try.underlying25 rfl ?hi ?_; (case hw => (first | rfl | (simp [Region.wanted, yielded]; done))); (case hi => (first | kernel_rfl | (rw [vfn_size]; kernel_rfl))))
          | (go_at_call 20; with_reducible refine (C4.out _).mono ?_; rintro e w5 ⟨rfl, hb⟩; replace hB := hB.trans (hb.mono hB.size); replace p := p.below hb p.lt; replace q := q.below hb q.lt; replace a := a.below hb a.lt; replace b := b.below hb b.lt; replace c := c.below hb c.lt; replace d := d.below hb d.lt; clear hb))
        go_upto_region 14 with (first
          | (refine wpList_load_rowG ?hw _ _ rfl _ rfl _ _ _ _ p Try.underlying23 rfl ?hi ?_; (case hw => (first | rfl | (simp [Region.wanted, yielded]; done))); (case hi => (first | kernel_rfl | (rw [qfn_size]; kernel_rfl))))
          | (refine wpList_load_rowG ?hw _ _ rfl _ rfl _ _ _ _ q Try.underlying25 rfl ?hi ?_; (case hw => (first | rfl | (simp [Region.wanted, yielded]; done))); (case hi => (first | kernel_rfl | (rw [vfn_size]; kernel_rfl))))
          | (refine wpList_load_rowG ?hw _ _ rfl _ rfl _ _ _ _ a Try.underlying23 rfl ?hi ?_; (case hw => (first | rfl | (simp [Region.wanted, yielded]; done))); (case hi => (first | kernel_rfl | (rw [qfn_size]; kernel_rfl))))
          | (refine wpList_load_rowG ?hw _ _ rfl _ rfl _ _ _ _ b Try.underlying25 rfl ?hi ?_; (case hw => (first | rfl | (simp [Region.wanted, yielded]; done))); (case hi => (first | kernel_rfl | (rw [vfn_size]; kernel_rfl))))
          | (refine wpList_load_rowG ?hw _ _ rfl _ rfl _ _ _ _ c Try.underlying25 rfl ?hi ?_; (case hw => (first | rfl | (simp [Region.wanted, yielded]; done))); (case hi => (first | kernel_rfl | (rw [vfn_size]; kernel_rfl))))
          | (refine wpList_load_rowG ?hw _ _ rfl _ rfl _ _ _ _ d Try.underlying25 rfl ?hi ?_; (case hw => (first | rfl | (simp [Region.wanted, yielded]; done))); (case hi => (first | kernel_rfl | (rw [vfn_size]; kernel_rfl))))
          | (go_at_call 20; with_reducible refine (C5.out _).mono ?_; rintro e w6 ⟨rfl, hb⟩; replace hB := hB.trans (hb.mono hB.size); replace p := p.below hb p.lt; replace q := q.below hb q.lt; replace a := a.below hb a.lt; replace b := b.below hb b.lt; replace c := c.below hb c.lt; replace d := d.below hb d.lt; clear hb))
        go_upto_region 15 with (first
          | (refine wpList_load_rowG ?hw _ _ rfl _ rfl _ _ _ _ p Try.underlying23 rfl ?hi ?_; (case hw => (first | rfl | (simp [Region.wanted, yielded]; done))); (case hi => (first | kernel_rfl | (rw [qfn_size]; kernel_rfl))))
          | (refine wpList_load_rowG ?hw _ _ rfl _ rfl _ _ _ _ q Try.underlying25 rfl ?hi ?_; (case hw => (first | rfl | (simp [Region.wanted, yielded]; done))); (case hi => (first | kernel_rfl | (rw [vfn_size]; kernel_rfl))))
          | (refine wpList_load_rowG ?hw _ _ rfl _ rfl _ _ _ _ a Try.underlying23 rfl ?hi ?_; (case hw => (first | rfl | (simp [Region.wanted, yielded]; done))); (case hi => (first | kernel_rfl | (rw [qfn_size]; kernel_rfl))))
          | (refine wpList_load_rowG ?hw _ _ rfl _ rfl _ _ _ _ b Try.underlying25 rfl ?hi ?_; (case hw => (first | rfl | (simp [Region.wanted, yielded]; done))); (case hi => (first | kernel_rfl | (rw [vfn_size]; kernel_rfl))))
          | (refine wpList_load_rowG ?hw _ _ rfl _ rfl _ _ _ _ c Try.underlying25 rfl ?hi ?_; (case hw => (first | rfl | (simp [Region.wanted, yielded]; done))); (case hi => (first | kernel_rfl | (rw [vfn_size]; kernel_rfl))))
          | (refine wpList_load_rowG ?hw _ _ rfl _ rfl _ _ _ _ d Try.underlying25 rfl ?hi ?_; (case hw => (first | rfl | (simp [Region.wanted, yielded]; done))); (case hi => (first | kernel_rfl | (rw [vfn_size]; kernel_rfl))))
          | (go_at_call 20; with_reducible refine (C6.out _).mono ?_; rintro e w7 ⟨rfl, hb⟩; replace hB := hB.trans (hb.mono hB.size); replace p := p.below hb p.lt; replace q := q.below hb q.lt; replace a := a.below hb a.lt; replace b := b.below hb b.lt; replace c := c.below hb c.lt; replace d := d.below hb d.lt; clear hb))
        have ⟨⟨h0, h1, h2, h3, h4, h5, h6, h7, h8, h9⟩, _⟩ := C7.out
        have A1 := Lib.hid (fun w => apart_any m n (n / 67108864 + 2) w ⟨by omega, by omega⟩ ⟨by omega, by omega⟩ ⟨by omega, by omega⟩ h6 h7)
        have A2 := Lib.hid (fun w => apart_any l n (n / 67108864 + 2) w ⟨by omega, by omega⟩ ⟨by omega, by omega⟩ ⟨by omega, by omega⟩ h8 h9)
        have q1 : n.tdiv 67108864 = n / 67108864 := Int.tdiv_eq_ediv_of_nonneg h0
        have q2 : n.tdiv 33554432 = n / 33554432 := Int.tdiv_eq_ediv_of_nonneg h0
        have x1 : IntKind.i64.wrap (n / 67108864) = n / 67108864 := by rw [IntKind.wrap_i64]; omega
        have x2 : IntKind.i64.wrap (n / 67108864 + 2) = n / 67108864 + 2 := by rw [IntKind.wrap_i64]; omega
        have x3 : IntKind.i64.wrap (n / 33554432) = n / 33554432 := by rw [IntKind.wrap_i64]; omega
        have x4 : IntKind.i64.wrap (n / 33554432 + 3) = n / 33554432 + 3 := by rw [IntKind.wrap_i64]; omega
        have A3 := Lib.hid (fun k hk w => apart_any (y k) (v k) (n / 33554432 + 3) w ⟨by have := C7.out.2 k hk; omega, by have := C7.out.2 k hk; omega⟩ ⟨by have := C7.out.2 k hk; omega, by have := C7.out.2 k hk; omega⟩ ⟨by omega, by omega⟩ (C7.out.2 k hk).2.2.2.2.1 (C7.out.2 k hk).2.2.2.2.2)
        clear h0 h1 h2 h3 h4 h5 h6 h7 h8 h9 C1 C2 C3 C4 C5 C6 C7
        go_upto_region 18 with (first
          | (refine wpList_load_rowG ?hw _ _ rfl _ rfl _ _ _ _ p Try.underlying23 rfl ?hi ?_; (case hw => (first | rfl | (simp [Region.wanted, yielded]; done))); (case hi => (first | kernel_rfl | (rw [qfn_size]; kernel_rfl))))
          | (refine wpList_load_rowG ?hw _ _ rfl _ rfl _ _ _ _ q Try.underlying25 rfl ?hi ?_; (case hw => (first | rfl | (simp [Region.wanted, yielded]; done))); (case hi => (first | kernel_rfl | (rw [vfn_size]; kernel_rfl))))
          | (refine wpList_load_rowG ?hw _ _ rfl _ rfl _ _ _ _ a Try.underlying23 rfl ?hi ?_; (case hw => (first | rfl | (simp [Region.wanted, yielded]; done))); (case hi => (first | kernel_rfl | (rw [qfn_size]; kernel_rfl))))
          | (refine wpList_load_rowG ?hw _ _ rfl _ rfl _ _ _ _ b Try.underlying25 rfl ?hi ?_; (case hw => (first | rfl | (simp [Region.wanted, yielded]; done))); (case hi => (first | kernel_rfl | (rw [vfn_size]; kernel_rfl))))
          | (refine wpList_load_rowG ?hw _ _ rfl _ rfl _ _ _ _ c Try.underlying25 rfl ?hi ?_; (case hw => (first | rfl | (simp [Region.wanted, yielded]; done))); (case hi => (first | kernel_rfl | (rw [vfn_size]; kernel_rfl))))
          | (refine wpList_load_rowG ?hw _ _ rfl _ rfl _ _ _ _ d Try.underlying25 rfl ?hi ?_; (case hw => (first | rfl | (simp [Region.wanted, yielded]; done))); (case hi => (first | kernel_rfl | (rw [vfn_size]; kernel_rfl))))
          | (go_at_call 21; with_reducible refine (A1.out _).mono ?_; rintro e w8 ⟨rfl, hb⟩; replace hB := hB.trans (hb.mono hB.size); replace p := p.below hb p.lt; replace q := q.below hb q.lt; replace a := a.below hb a.lt; replace b := b.below hb b.lt; replace c := c.below hb c.lt; replace d := d.below hb d.lt; clear hb)
          | (go_at_call 21; with_reducible refine (A2.out _).mono ?_; rintro e w9 ⟨rfl, hb⟩; replace hB := hB.trans (hb.mono hB.size); replace p := p.below hb p.lt; replace q := q.below hb q.lt; replace a := a.below hb a.lt; replace b := b.below hb b.lt; replace c := c.below hb c.lt; replace d := d.below hb d.lt; clear hb))
        clear a b c
        go_wp2_with (fail)
        go_loopg [20] 3 (fun g_ iv wr => ∃ k : Nat, g_ + k = 3 ∧ iv = .int .i64 k ∧ blk wr w.heap.size (qfn f) 23 ∧ blk wr (w.heap.size + 1) (vfn v) 25 ∧ blk wr d_b (vfn y) 25 ∧ Below w.heap.size w wr)
        case atStart => exact ⟨0, rfl, rfl, p, q, d, hB⟩
        case round =>
          clear p q d hB
          obtain ⟨k, hk, rfl, p, q, d, hB⟩ := hrel
          by_cases hkn : k < 3
          · have hdk : decide ((k : Int) < 3) = true := decide_eq_true (by omega)
            have hdk' : decide (k < 3) = true := decide_eq_true (by omega)
            have hk3 : (k : Int) < 3 := by omega
            have hw3 : IntKind.i64.wrap ((k : Int) + 1) = ((k + 1 : Nat) : Int) := by rw [IntKind.wrap_i64]; omega
            have AK := Lib.hid (A3.out k hkn)
            go_upto_region 22 with (first
              | (refine wpList_load_rowG ?hw _ _ rfl _ rfl _ _ _ _ p Try.underlying23 rfl ?hi ?_; (case hw => (first | rfl | (simp [Region.wanted, yielded]; done))); (case hi => (first | kernel_rfl | (rw [qfn_size]; kernel_rfl))))
              | (refine wpList_load_rowG ?hw _ _ rfl _ rfl _ _ _ _ q Try.underlying25 rfl ?hi ?_; (case hw => (first | rfl | (simp [Region.wanted, yielded]; done))); (case hi => (first | kernel_rfl | (rw [vfn_size]; kernel_rfl))))
              | (refine wpList_load_rowG ?hw _ _ rfl _ rfl _ _ _ _ d Try.underlying25 rfl ?hi ?_; (case hw => (first | rfl | (simp [Region.wanted, yielded]; done))); (case hi => (first | kernel_rfl | (rw [vfn_size]; kernel_rfl)))))
            refine wp_region_Y 99 10 rfl (by kernel_rfl) ?_
            replace p := p.drew
            replace q := q.drew
            replace d := d.drew
            replace hB : Below w.heap.size w wr.drew := hB.drew
            generalize wr.drew = wrd at *
            apply wpY_takeB 0; (case ho' => exact rfl); (case hg => exact rfl); (case hB => kernel_rfl); (case h => (intro w1; go_simp; exact ⟨rfl, Below.refl _ _⟩))
            simp only [Act.put, List.setIfInBounds_toArray, List.set_cons_zero, List.set_cons_succ]
            apply wpY_takeB 1; (case ho' => exact rfl); (case hg => exact rfl); (case hB => kernel_rfl); (case h => (intro w1; go_simp; first | exact ⟨rfl, Below.refl _ _⟩ | (rw [if_pos hk3]; exact ⟨rfl, Below.refl _ _⟩)))
            simp only [Act.put, List.setIfInBounds_toArray, List.set_cons_zero, List.set_cons_succ]
            apply wpY_takeA 2; (case ho' => exact rfl); (case hg => exact rfl); (case hB => kernel_rfl); (case hW => kernel_rfl); (case h => (intro w1 h1; have hc := (d.below h1 d.lt).cellIs (vfn_get _ hkn); go_simp; exact ⟨rfl, Below.refl _ _⟩))
            simp only [Act.put, List.setIfInBounds_toArray, List.set_cons_zero, List.set_cons_succ]
            apply wpY_takeB 3; (case ho' => exact rfl); (case hg => exact rfl); (case hB => kernel_rfl); (case h => (intro w1; go_simp; exact ⟨rfl, Below.refl _ _⟩))
            simp only [Act.put, List.setIfInBounds_toArray, List.set_cons_zero, List.set_cons_succ]
            apply wpY_takeB 4; (case ho' => exact rfl); (case hg => exact rfl); (case hB => kernel_rfl); (case h => (intro w1; go_simp; first | exact ⟨rfl, Below.refl _ _⟩ | (rw [if_pos hk3]; exact ⟨rfl, Below.refl _ _⟩)))
            simp only [Act.put, List.setIfInBounds_toArray, List.set_cons_zero, List.set_cons_succ]
            apply wpY_takeA 5; (case ho' => exact rfl); (case hg => exact rfl); (case hB => kernel_rfl); (case hW => kernel_rfl); (case h => (intro w1 h1; have hc := (q.below h1 q.lt).cellIs (vfn_get _ hkn); go_simp; exact ⟨rfl, Below.refl _ _⟩))
            simp only [Act.put, List.setIfInBounds_toArray, List.set_cons_zero, List.set_cons_succ]
            apply wpY_takeB 6; (case ho' => exact rfl); (case hg => exact rfl); (case hB => kernel_rfl); (case h => (intro w1; go_simp; exact ⟨rfl, Below.refl _ _⟩))
            simp only [Act.put, List.setIfInBounds_toArray, List.set_cons_zero, List.set_cons_succ]
            apply wpY_takeB 7; (case ho' => exact rfl); (case hg => exact rfl); (case hB => kernel_rfl); (case h => (intro w1; go_simp; exact ⟨rfl, Below.refl _ _⟩))
            simp only [Act.put, List.setIfInBounds_toArray, List.set_cons_zero, List.set_cons_succ]
            apply wpY_takeB 8; (case ho' => exact rfl); (case hg => exact rfl); (case hB => kernel_rfl); (case h => (intro w1; go_simp; exact ⟨rfl, Below.refl _ _⟩))
            simp only [Act.put, List.setIfInBounds_toArray, List.set_cons_zero, List.set_cons_succ]
            apply wpY_takeA 9; (case ho' => exact rfl); (case hg => exact rfl); (case hB => kernel_rfl); (case hW => kernel_rfl); (case h => (intro w1 h1; go_simp; refine (AK.out _).mono ?_; rintro e w2 ⟨rfl, h2⟩; exact ⟨rfl, h2⟩))
            simp only [Act.put, List.setIfInBounds_toArray, List.set_cons_zero, List.set_cons_succ]
            refine wpY_end (by kernel_rfl) (fun we91 ht => ?_)
            replace hB := hB.trans (ht.mono hB.size)
            replace p := p.below ht p.lt
            replace q := q.below ht q.lt
            replace d := d.below ht d.lt
            clear ht
            go_wp2_with (fail)
            go_roundg (3 - (k + 1))
            case rel =>
              exact ⟨k + 1, by omega, rfl, p, q, d, hB⟩
            case measure => omega
          · obtain rfl : k = 3 := by omega
            go_wp2_with (first
              | (go_at_call 14; refine (awakeQ_any _).mono ?_; rintro e wx ⟨rfl, hb⟩; replace hB := hB.trans (hb.mono hB.size); clear hb))
            go_ret
            exact ⟨rfl, hB⟩
theorem qkeeps_any (f v : Nat → Int) (w : World) : Calls Try.prog 4 #[.agg (qfn f), .agg (vfn v)] w fun e w' => e = .returned (.bool true) ∧ Below w.heap.size w w' := by
  refine qkeeps_walk f v (lunF f) (qrotF (qunF f) v) (qbackF (qunF f) v) (qbackF (qunF f) (qrotF (qunF f) v)) (normV v) (normV (qrotF (qunF f) v)) (normV (qbackF (qunF f) v)) (lunB f) w (fun w => lunit_any f w) (fun hv hb => ?_)
  unfold lunB at hb
  rw [Bool.and_eq_true, beq_iff_eq] at hb
  obtain ⟨hk, he⟩ := hb
  have hz : zQ f = false := by
    cases hz : zQ f with
    | false => rfl
    | true => unfold qunE at he; rw [hk, hz] at he; cases he
  have hF : lunF f = qunF f := by unfold lunF; rw [hk]; rfl
  obtain ⟨_, ku, _⟩ := qun_core hk hz
  have hIu : ∀ i, i < 4 → I64 (qunF f i) := okQ_I ku
  obtain ⟨c1, c2, c3, c4, c5, c6, c7⟩ := keeps_core hk hz hv
  rw [hF]
  refine ⟨fun w => ?_, fun w => ?_, fun w => ?_, fun w => ?_, fun w => ?_, fun w => ?_, c7⟩
  · have := qrot_any (qunF f) v w hIu; rwa [c1] at this
  · have := qback_any (qunF f) v w hIu; rwa [c2] at this
  · have := qback_any (qunF f) (qrotF (qunF f) v) w hIu; rwa [c3] at this
  · have := vnorm_any v w; rwa [c4] at this
  · have := vnorm_any (qrotF (qunF f) v) w; rwa [c5] at this
  · have := vnorm_any (qbackF (qunF f) v) w; rwa [c6] at this
end Go.Proofs.Ytcgpcehdeihalaa
