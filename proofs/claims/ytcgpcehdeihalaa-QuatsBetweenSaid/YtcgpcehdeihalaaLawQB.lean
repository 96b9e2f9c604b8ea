/-
  QuatsBetween returns true.
-/
import Derived.Test.YtcgpcehdeihalaaLawQL
import Derived.Test.YtcgpcehdeihalaaBetM
import Derived.Test.YtcgpcehdeihalaaApart
set_option linter.unusedSimpArgs false
set_option linter.unusedVariables false
namespace Go.Proofs.Ytcgpcehdeihalaa
open Go.RowKit PM Dt
theorem wid {x : Int} (hx : -4611686018427387904 ≤ x ∧ x ≤ 4611686018427387904) : wrap64 x = x := by unfold wrap64; omega
theorem cj_a (u : Nat → Int) : conjF u 0 = u 0 := rfl
theorem cj_b (u : Nat → Int) : cj u 0 = u 0 := rfl
theorem cj_eq {u : Nat → Int} (ku : okQ u = true) : ∀ i, i < 4 → conjF u i = cj u i := fun i hi => by
  have bd := okQ_bd ku hi
  have : i = 0 ∨ i = 1 ∨ i = 2 ∨ i = 3 := by omega
  rcases this with rfl | rfl | rfl | rfl
  · exact (cj_a u).trans (cj_b u).symm
  · exact (wid (x := -u 1) (by omega))
  · exact (wid (x := -u 2) (by omega))
  · exact (wid (x := -u 3) (by omega))
theorem pe_l {x y g : Nat → Int} (h0 : x 0 = y 0) (h1 : x 1 = y 1) (h2 : x 2 = y 2) (h3 : x 3 = y 3) (i : Nat) : pe x g i = pe y g i := by
  unfold pe
  split <;> rw [h0, h1, h2, h3]
theorem cj_ok {u : Nat → Int} (ku : okQ u = true) : okQ (conjF u) = true := (okQ_iff _).2 fun i hi => (vb_iff _).2 (by
  rw [cj_eq ku i hi]
  have bd := okQ_bd ku hi
  have : i = 0 ∨ i = 1 ∨ i = 2 ∨ i = 3 := by omega
  rcases this with rfl | rfl | rfl | rfl
  · exact bd
  · show _ ≤ -u 1 ∧ -u 1 ≤ _
    omega
  · show _ ≤ -u 2 ∧ -u 2 ≤ _
    omega
  · show _ ≤ -u 3 ∧ -u 3 ≤ _
    omega)
set_option maxRecDepth 100000 in
/-- The attitude that was turned, and the rotation to it. -/
theorem between_all {f h : Nat → Int} (hk : okQ f = true) (hz : zQ f = false) (hv : smallB h 268435456 = true) :
    okQ (qunF f) = true ∧ okQ (turnF (qunF f) h) = true ∧ turnE (qunF f) h = 0 ∧ betE (qunF f) (turnF (qunF f) h) = 0 ∧ qunE (rq h) = 0 ∧
    ∀ i, i < 4 → (-2199023255552 ≤ betF (qunF f) (turnF (qunF f) h) i ∧ betF (qunF f) (turnF (qunF f) h) i ≤ 2199023255552) ∧ (-2199023255552 ≤ qunF (rq h) i ∧ qunF (rq h) i ≤ 2199023255552) ∧ betF (qunF f) (turnF (qunF f) h) i ≤ qunF (rq h) i + 16 ∧ qunF (rq h) i ≤ betF (qunF f) (turnF (qunF f) h) i + 16 := by
  have hh : smallB h 1073741824 = true := (smallB_iff h _).2 fun i hi => (sb_iff _ _).2 (by have := (sb_iff _ _).1 ((smallB_iff h _).1 hv i hi); omega)
  obtain ⟨_, ku, _, u1, u2⟩ := qun_core hk hz
  obtain ⟨vu, _⟩ := qun_valid hk hz
  have hIu : ∀ i, i < 4 → I64 (qunF f i) := okQ_I ku
  obtain ⟨t1, t2, tk, tz⟩ := turn_core hIu vu hh
  obtain ⟨_, kt, ⟨Nt, Pt, a1, a2, a3, a4, a5⟩, _⟩ := qun_core tk tz
  obtain ⟨vt, _⟩ := qun_valid tk tz
  obtain ⟨rk, r1, r2⟩ := rq_ok hh
  have rz : zQ (rq h) = false := by
    cases hz : zQ (rq h) with
    | false => rfl
    | true =>
      unfold zQ at hz
      rw [List.all_eq_true] at hz
      have := beq_iff_eq.1 (hz 0 (List.mem_range.2 (by omega)))
      exact absurd (show (1073741824 : Int) = 0 from this) (by decide)
  obtain ⟨re, rk', ⟨Nr, Pr, b1, b2, b3, b4, b5⟩, _⟩ := qun_core rk rz
  have cje := cj_eq ku
  have ck := cj_ok ku
  have hp : ∀ i, i < 4 → 1073741824 * qprodF (qunF f) (rq h) i = pe (qunF f) (rq h) i + (1073741824 * qprodF (qunF f) (rq h) i - pe (qunF f) (rq h) i) ∧ -536870912 ≤ 1073741824 * qprodF (qunF f) (rq h) i - pe (qunF f) (rq h) i ∧ 1073741824 * qprodF (qunF f) (rq h) i - pe (qunF f) (rq h) i ≤ 536870912 := fun i hi => by
    obtain ⟨e, h1, h2, h3⟩ := prod_err ku rk hi
    omega
  have hB : ∀ i, i < 4 → 1073741824 * qprodF (conjF (qunF f)) (turnF (qunF f) h) i = pe (cj (qunF f)) (turnF (qunF f) h) i + (1073741824 * qprodF (conjF (qunF f)) (turnF (qunF f) h) i - pe (cj (qunF f)) (turnF (qunF f) h) i) ∧ -536870912 ≤ 1073741824 * qprodF (conjF (qunF f)) (turnF (qunF f) h) i - pe (cj (qunF f)) (turnF (qunF f) h) i ∧ 1073741824 * qprodF (conjF (qunF f)) (turnF (qunF f) h) i - pe (cj (qunF f)) (turnF (qunF f) h) i ≤ 536870912 := fun i hi => by
    obtain ⟨e, h1, h2, h3⟩ := prod_err ck (g := turnF (qunF f) h) (by rw [t2]; exact kt) hi
    have he : pe (conjF (qunF f)) (turnF (qunF f) h) i = pe (cj (qunF f)) (turnF (qunF f) h) i := by
      have e0 := cje 0 (by omega)
      have e1 := cje 1 (by omega)
      have e2 := cje 2 (by omega)
      have e3 := cje 3 (by omega)
      exact pe_l e0 e1 e2 e3 i
    rw [he] at h1
    omega
  have ht : ∀ i, i < 4 → 2 * (Nt * turnF (qunF f) h i) = 2 * (1073741824 * (Pt * qprodF (qunF f) (rq h) i)) + (2 * (Nt * turnF (qunF f) h i) - 2 * (1073741824 * (Pt * qprodF (qunF f) (rq h) i))) ∧ -Nt ≤ 2 * (Nt * turnF (qunF f) h i) - 2 * (1073741824 * (Pt * qprodF (qunF f) (rq h) i)) ∧ 2 * (Nt * turnF (qunF f) h i) - 2 * (1073741824 * (Pt * qprodF (qunF f) (rq h) i)) ≤ Nt := fun i hi => by
    obtain ⟨d, h1, h2, h3⟩ := a5 i hi
    rw [t2]
    generalize Nt * qunF (qprodF (qunF f) (rq h)) i = X at *
    generalize Pt * qprodF (qunF f) (rq h) i = Y at *
    omega
  have hr : ∀ i, i < 4 → 2 * (Nr * qunF (rq h) i) = 2 * (1073741824 * (Pr * rq h i)) + (2 * (Nr * qunF (rq h) i) - 2 * (1073741824 * (Pr * rq h i))) ∧ -Nr ≤ 2 * (Nr * qunF (rq h) i) - 2 * (1073741824 * (Pr * rq h i)) ∧ 2 * (Nr * qunF (rq h) i) - 2 * (1073741824 * (Pr * rq h i)) ≤ Nr := fun i hi => by
    obtain ⟨d, h1, h2, h3⟩ := b5 i hi
    generalize Nr * qunF (rq h) i = X at *
    generalize Pr * rq h i = Y at *
    omega
  have hRi : ∀ i, i < 4 → -1073741824 ≤ rq h i ∧ rq h i ≤ 1073741824 := fun i hi => by
    have b := fun j hj => (sb_iff _ _).1 ((smallB_iff h 1073741824).1 hh j hj)
    have : i = 0 ∨ i = 1 ∨ i = 2 ∨ i = 3 := by omega
    rcases this with rfl | rfl | rfl | rfl
    · show -1073741824 ≤ (1073741824 : Int) ∧ (1073741824 : Int) ≤ 1073741824
      omega
    · exact b 0 (by omega)
    · exact b 1 (by omega)
    · exact b 2 (by omega)
  obtain ⟨core, B0⟩ := between_core u1 u2 rfl hRi r1 r2 hp a2 a1 a3 a4 ht b2 b1 b3 b4 hr hB
  have hbx : betF (qunF f) (turnF (qunF f) h) = qprodF (conjF (qunF f)) (turnF (qunF f) h) := by
    unfold betF betX
    have vt' : validQ (turnF (qunF f) h) = true := by rw [t2]; exact vt
    rw [vu, vt']
    show (if qprodF (conjF (qunF f)) (turnF (qunF f) h) 0 < 0 then _ else _) = _
    rw [if_neg (Int.not_lt.2 B0)]
  have hbe : betE (qunF f) (turnF (qunF f) h) = 0 := by
    unfold betE
    rw [vu, t2, vt]; rfl
  refine ⟨ku, by rw [t2]; exact kt, t1, hbe, re, fun i hi => ?_⟩
  rw [hbx]
  have c := core i hi
  have bd := okQ_bd rk' hi
  omega
set_option maxRecDepth 100000 in
set_option maxHeartbeats 4000000 in
theorem qbetween_walk (f h u t B r : Nat → Int) (b : Bool) (w : World) (U1 : Hid (∀ w, Calls Try.prog 13 #[.agg (qfn f)] w fun e w' => e = .returned (.tuple #[.agg (qfn u), .bool b]) ∧ Below w.heap.size w w')) (PK : Hid (smallB h 268435456 = true → b = true → Hid (∀ w, Calls Try.prog 17 #[.agg (qfn u), .agg (vfn h)] w fun e w' => e = .returned (.tuple #[.agg (qfn t), .int .i64 0]) ∧ Below w.heap.size w w') ∧ Hid (∀ w, Calls Try.prog 22 #[.agg (qfn u), .agg (qfn t)] w fun e w' => e = .returned (.tuple #[.agg (qfn B), .int .i64 0]) ∧ Below w.heap.size w w') ∧ Hid (∀ w, Calls Try.prog 23 #[.agg #[.int .i64 1073741824, .int .i64 (h 0), .int .i64 (h 1), .int .i64 (h 2)]] w fun e w' => e = .returned (.tuple #[.agg (qfn r), .int .i64 0]) ∧ Below w.heap.size w w') ∧ Hid (∀ i, i < 4 → (-2199023255552 ≤ B i ∧ B i ≤ 2199023255552) ∧ (-2199023255552 ≤ r i ∧ r i ≤ 2199023255552) ∧ B i ≤ r i + 16 ∧ r i ≤ B i + 16))) : Calls Try.prog 5 #[.agg (qfn f), .agg (vfn h)] w fun e w' => e = .returned (.bool true) ∧ Below w.heap.size w w' := by
  go_enter Try.func5, Try.ntmps5
  go_upto_region 1 with (fail)
  have p : blk ((w.alloc (.cells (qfn f) 23)).alloc (.cells (vfn h) 25)) w.heap.size (qfn f) 23 := (blk.new _ _ _).alloc _
  have q : blk ((w.alloc (.cells (qfn f) 23)).alloc (.cells (vfn h) 25)) (w.heap.size + 1) (vfn h) 25 := blk.new' (by simp)
  have hB : Below w.heap.size w ((w.alloc (.cells (qfn f) 23)).alloc (.cells (vfn h) 25)) := by go_grown
  generalize ((w.alloc (.cells (qfn f) 23)).alloc (.cells (vfn h) 25)) = w0 at *
  go_wp2_with (fail)
  go_loopg [5] 3 (fun g_ iv wr => ∃ k : Nat, g_ + k = 3 ∧ iv = .int .i64 k ∧ Hid (∀ j, j < k → sb 268435456 (h j) = true) ∧ blk wr w.heap.size (qfn f) 23 ∧ blk wr (w.heap.size + 1) (vfn h) 25 ∧ Below w.heap.size w wr)
  case atStart => exact ⟨0, rfl, rfl, fun j hj => by omega, p, q, hB⟩
  case round =>
    clear p q hB
    obtain ⟨k, hk, rfl, hall, p, q, hB⟩ := hrel
    by_cases hkn : k < 3
    · have hdk : decide ((k : Int) < 3) = true := decide_eq_true (by omega)
      have hdk' : decide (k < 3) = true := decide_eq_true (by omega)
      have hk3 : (k : Int) < 3 := by omega
      have hw3 : IntKind.i64.wrap ((k : Int) + 1) = ((k + 1 : Nat) : Int) := by rw [IntKind.wrap_i64]; omega
      have ck : wr.cell? ⟨(w.heap.size + 1), k, none⟩ = some (.int .i64 (h k)) := q.cellIs (vfn_get _ (hkn))
      by_cases h1 : -268435456 ≤ h k
      · have d1 : decide (h k < -268435456) = false := decide_eq_false (by omega)
        by_cases h2 : h k ≤ 268435456
        · have d2 : decide (268435456 < h k) = false := decide_eq_false (by omega)
          have HV := Lib.hid ((sb_iff _ _).2 ⟨h1, h2⟩)
          clear h1 h2
          go_wp2_with (fail)
          go_roundg (3 - (k + 1))
          case rel =>
            refine ⟨k + 1, by omega, rfl, fun j hj => ?_, p, q, hB⟩
            by_cases e : j = k
            · subst e; exact HV.out
            · exact hall.out j (by omega)
          case measure => omega
        · have d2 : decide (268435456 < h k) = true := decide_eq_true (by omega)
          clear h1 h2
          go_wp2_with (first
            | (go_at_call 14; refine (awakeQ_any _).mono ?_; rintro e wx ⟨rfl, hb⟩; replace hB := hB.trans (hb.mono hB.size); clear hb))
          go_ret
          exact ⟨rfl, hB⟩
      · have d1 : decide (h k < -268435456) = true := decide_eq_true (by omega)
        clear h1
        go_wp2_with (first
          | (go_at_call 14; refine (awakeQ_any _).mono ?_; rintro e wx ⟨rfl, hb⟩; replace hB := hB.trans (hb.mono hB.size); clear hb))
        go_ret
        exact ⟨rfl, hB⟩
    · obtain rfl : k = 3 := by omega
      have HV := Lib.hid ((smallB_iff h 268435456).2 hall.out)
      go_upto_region 7 with (first
        | (refine wpList_load_rowG ?hw _ _ rfl _ rfl _ _ _ _ p Try.underlying23 rfl ?hi ?_; (case hw => (first | rfl | (simp [Region.wanted, yielded]; done))); (case hi => (first | kernel_rfl | (rw [qfn_size]; kernel_rfl))))
        | (refine wpList_load_rowG ?hw _ _ rfl _ rfl _ _ _ _ q Try.underlying25 rfl ?hi ?_; (case hw => (first | rfl | (simp [Region.wanted, yielded]; done))); (case hi => (first | kernel_rfl | (rw [vfn_size]; kernel_rfl))))
        | (go_at_call 13; with_reducible refine (U1.out _).mono ?_; rintro e w1 ⟨rfl, hb⟩; replace hB := hB.trans (hb.mono hB.size); replace p := p.below hb p.lt; replace q := q.below hb q.lt; clear hb)
        | (rw [zero_quat]; refine wpList_store_row rfl _ _ _ rfl _ rfl _ rfl _ _ (blk.new _ _ _) (by first | kernel_rfl | (rw [qfn_size]; kernel_rfl)) (by first | rfl | simp only [qfn_size]) (by first | exact qfn_one _ | rfl) ?_))
      have a := (blk.new w1 (qfn fun _ => 0) 23).row (qfn u)
      replace hB := Below.setRow (hB.alloc hB.size (.cells (qfn fun _ => 0) 23)) (g := w1.heap.size) hB.size (qfn u)
      have hne : ∀ x, x < w1.heap.size → x ≠ w1.heap.size := fun x hx => Nat.ne_of_lt hx
      replace p := (p.alloc (.cells (qfn fun _ => 0) 23)).rowOther (hne _ p.lt) (qfn u)
      replace q := (q.alloc (.cells (qfn fun _ => 0) 23)).rowOther (hne _ q.lt) (qfn u)
      clear hne
      generalize (w1.alloc (.cells (qfn fun _ => 0) 23)).setRow w1.heap.size (qfn u) = w1x at *
      generalize w1.heap.size = a_b at *
      cases b
      case false =>
        go_wp2_with (first
          | (go_at_call 14; refine (awakeQ_any _).mono ?_; rintro e wx ⟨rfl, hb⟩; replace hB := hB.trans (hb.mono hB.size); clear hb))
        go_ret
        exact ⟨rfl, hB⟩
      case true =>
        obtain ⟨C1, C2, C3, C4⟩ := PK.out HV.out rfl
        clear PK U1 hall
        go_upto_region 10 with (first
          | (refine wpList_load_rowG ?hw _ _ rfl _ rfl _ _ _ _ p Try.underlying23 rfl ?hi ?_; (case hw => (first | rfl | (simp [Region.wanted, yielded]; done))); (case hi => (first | kernel_rfl | (rw [qfn_size]; kernel_rfl))))
          | (refine wpList_load_rowG ?hw _ _ rfl _ rfl _ _ _ _ q Try.underlying25 rfl ?hi ?_; (case hw => (first | rfl | (simp [Region.wanted, yielded]; done))); (case hi => (first | kernel_rfl | (rw [vfn_size]; kernel_rfl))))
          | (refine wpList_load_rowG ?hw _ _ rfl _ rfl _ _ _ _ a Try.underlying23 rfl ?hi ?_; (case hw => (first | rfl | (simp [Region.wanted, yielded]; done))); (case hi => (first | kernel_rfl | (rw [qfn_size]; kernel_rfl))))
          | (go_at_call 17; with_reducible refine (C1.out _).mono ?_; rintro e w2 ⟨rfl, hb⟩; replace hB := hB.trans (hb.mono hB.size); replace p := p.below hb p.lt; replace q := q.below hb q.lt; replace a := a.below hb a.lt; clear hb)
          | (rw [zero_quat]; refine wpList_store_row rfl _ _ _ rfl _ rfl _ rfl _ _ (blk.new _ _ _) (by first | kernel_rfl | (rw [qfn_size]; kernel_rfl)) (by first | rfl | simp only [qfn_size]) (by first | exact qfn_one _ | rfl) ?_))
        have b := (blk.new w2 (qfn fun _ => 0) 23).row (qfn t)
        replace hB := Below.setRow (hB.alloc hB.size (.cells (qfn fun _ => 0) 23)) (g := w2.heap.size) hB.size (qfn t)
        have hne : ∀ x, x < w2.heap.size → x ≠ w2.heap.size := fun x hx => Nat.ne_of_lt hx
        replace p := (p.alloc (.cells (qfn fun _ => 0) 23)).rowOther (hne _ p.lt) (qfn t)
        replace q := (q.alloc (.cells (qfn fun _ => 0) 23)).rowOther (hne _ q.lt) (qfn t)
        replace a := (a.alloc (.cells (qfn fun _ => 0) 23)).rowOther (hne _ a.lt) (qfn t)
        clear hne
        generalize (w2.alloc (.cells (qfn fun _ => 0) 23)).setRow w2.heap.size (qfn t) = w2x at *
        generalize w2.heap.size = b_b at *
        go_upto_region 11 with (first
          | (refine wpList_load_rowG ?hw _ _ rfl _ rfl _ _ _ _ p Try.underlying23 rfl ?hi ?_; (case hw => (first | rfl | (simp [Region.wanted, yielded]; done))); (case hi => (first | kernel_rfl | (rw [qfn_size]; kernel_rfl))))
          | (refine wpList_load_rowG ?hw _ _ rfl _ rfl _ _ _ _ q Try.underlying25 rfl ?hi ?_; (case hw => (first | rfl | (simp [Region.wanted, yielded]; done))); (case hi => (first | kernel_rfl | (rw [vfn_size]; kernel_rfl))))
          | (refine wpList_load_rowG ?hw _ _ rfl _ rfl _ _ _ _ a Try.underlying23 rfl ?hi ?_; (case hw => (first | rfl | (simp [Region.wanted, yielded]; done))); (case hi => (first | kernel_rfl | (rw [qfn_size]; kernel_rfl))))
          | (refine wpList_load_rowG ?hw _ _ rfl _ rfl _ _ _ _ b Try.underlying23 rfl ?hi ?_; (case hw => (first | rfl | (simp [Region.wanted, yielded]; done))); (case hi => (first | kernel_rfl | (rw [qfn_size]; kernel_rfl))))
          | (go_at_call 22; with_reducible refine (C2.out _).mono ?_; rintro e w3 ⟨rfl, hb⟩; replace hB := hB.trans (hb.mono hB.size); replace p := p.below hb p.lt; replace q := q.below hb q.lt; replace a := a.below hb a.lt; replace b := b.below hb b.lt; clear hb)
          | (rw [zero_quat]; refine wpList_store_row rfl _ _ _ rfl _ rfl _ rfl _ _ (blk.new _ _ _) (by first | kernel_rfl | (rw [qfn_size]; kernel_rfl)) (by first | rfl | simp only [qfn_size]) (by first | exact qfn_one _ | rfl) ?_))
        have c := (blk.new w3 (qfn fun _ => 0) 23).row (qfn B)
        replace hB := Below.setRow (hB.alloc hB.size (.cells (qfn fun _ => 0) 23)) (g := w3.heap.size) hB.size (qfn B)
        have hne : ∀ x, x < w3.heap.size → x ≠ w3.heap.size := fun x hx => Nat.ne_of_lt hx
        replace p := (p.alloc (.cells (qfn fun _ => 0) 23)).rowOther (hne _ p.lt) (qfn B)
        replace q := (q.alloc (.cells (qfn fun _ => 0) 23)).rowOther (hne _ q.lt) (qfn B)
        replace a := (a.alloc (.cells (qfn fun _ => 0) 23)).rowOther (hne _ a.lt) (qfn B)
        replace b := (b.alloc (.cells (qfn fun _ => 0) 23)).rowOther (hne _ b.lt) (qfn B)
        clear hne
        generalize (w3.alloc (.cells (qfn fun _ => 0) 23)).setRow w3.heap.size (qfn B) = w3x at *
        generalize w3.heap.size = c_b at *
        have c0 : w3x.cell? ⟨(w.heap.size + 1), 0, none⟩ = some (.int .i64 (h 0)) := q.cellIs (vfn_get _ (by omega))
        have c1 : w3x.cell? ⟨(w.heap.size + 1), 1, none⟩ = some (.int .i64 (h 1)) := q.cellIs (vfn_get _ (by omega))
        have c2 : w3x.cell? ⟨(w.heap.size + 1), 2, none⟩ = some (.int .i64 (h 2)) := q.cellIs (vfn_get _ (by omega))
        go_upto_region 12 with (first
          | (go_at_call 23; with_reducible refine (C3.out _).mono ?_; rintro e w4 ⟨rfl, hb⟩; replace hB := hB.trans (hb.mono hB.size); replace p := p.below hb p.lt; replace q := q.below hb q.lt; replace a := a.below hb a.lt; replace b := b.below hb b.lt; replace c := c.below hb c.lt; clear hb)
          | (rw [zero_quat]; refine wpList_store_row rfl _ _ _ rfl _ rfl _ rfl _ _ (blk.new _ _ _) (by first | kernel_rfl | (rw [qfn_size]; kernel_rfl)) (by first | rfl | simp only [qfn_size]) (by first | exact qfn_one _ | rfl) ?_))
        clear c0 c1 c2
        have d := (blk.new w4 (qfn fun _ => 0) 23).row (qfn r)
        replace hB := Below.setRow (hB.alloc hB.size (.cells (qfn fun _ => 0) 23)) (g := w4.heap.size) hB.size (qfn r)
        have hne : ∀ x, x < w4.heap.size → x ≠ w4.heap.size := fun x hx => Nat.ne_of_lt hx
        replace p := (p.alloc (.cells (qfn fun _ => 0) 23)).rowOther (hne _ p.lt) (qfn r)
        replace q := (q.alloc (.cells (qfn fun _ => 0) 23)).rowOther (hne _ q.lt) (qfn r)
        replace a := (a.alloc (.cells (qfn fun _ => 0) 23)).rowOther (hne _ a.lt) (qfn r)
        replace b := (b.alloc (.cells (qfn fun _ => 0) 23)).rowOther (hne _ b.lt) (qfn r)
        replace c := (c.alloc (.cells (qfn fun _ => 0) 23)).rowOther (hne _ c.lt) (qfn r)
        clear hne
        generalize (w4.alloc (.cells (qfn fun _ => 0) 23)).setRow w4.heap.size (qfn r) = w4x at *
        generalize w4.heap.size = d_b at *
        have AP := Lib.hid (fun k hk w => apart_any (B k) (r k) 16 w ⟨by have := C4.out k hk; omega, by have := C4.out k hk; omega⟩ ⟨by have := C4.out k hk; omega, by have := C4.out k hk; omega⟩ ⟨by omega, by omega⟩ (C4.out k hk).2.2.1 (C4.out k hk).2.2.2)
        clear C1 C2 C3 C4
        clear p q a b
        go_wp2_with (fail)
        go_loopg [14] 4 (fun g_ iv wr => ∃ k : Nat, g_ + k = 4 ∧ iv = .int .i64 k ∧ blk wr c_b (qfn B) 23 ∧ blk wr d_b (qfn r) 23 ∧ Below w.heap.size w wr)
        case atStart => exact ⟨0, rfl, rfl, c, d, hB⟩
        case round =>
          clear c d hB
          obtain ⟨k, hk, rfl, c, d, hB⟩ := hrel
          by_cases hkn : k < 4
          · have hdk : decide ((k : Int) < 4) = true := decide_eq_true (by omega)
            have hdk' : decide (k < 4) = true := decide_eq_true (by omega)
            have hk3 : (k : Int) < 4 := by omega
            have hw3 : IntKind.i64.wrap ((k : Int) + 1) = ((k + 1 : Nat) : Int) := by rw [IntKind.wrap_i64]; omega
            have AK := Lib.hid (AP.out k hkn)
            go_upto_region 17 with (first
              | (refine wpList_load_rowG ?hw _ _ rfl _ rfl _ _ _ _ c Try.underlying23 rfl ?hi ?_; (case hw => (first | rfl | (simp [Region.wanted, yielded]; done))); (case hi => (first | kernel_rfl | (rw [qfn_size]; kernel_rfl))))
              | (refine wpList_load_rowG ?hw _ _ rfl _ rfl _ _ _ _ d Try.underlying23 rfl ?hi ?_; (case hw => (first | rfl | (simp [Region.wanted, yielded]; done))); (case hi => (first | kernel_rfl | (rw [qfn_size]; kernel_rfl)))))
            refine wp_region_Y 99 7 rfl (by kernel_rfl) ?_
            replace c := c.drew
            replace d := d.drew
            replace hB : Below w.heap.size w wr.drew := hB.drew
            generalize wr.drew = wrd at *
            apply wpY_takeB 0; (case ho' => exact rfl); (case hg => exact rfl); (case hB => kernel_rfl); (case h => (intro w1; go_simp; exact ⟨rfl, Below.refl _ _⟩))
            simp only [Act.put, List.setIfInBounds_toArray, List.set_cons_zero, List.set_cons_succ]
            apply wpY_takeB 1; (case ho' => exact rfl); (case hg => exact rfl); (case hB => kernel_rfl); (case h => (intro w1; go_simp; first | exact ⟨rfl, Below.refl _ _⟩ | (rw [if_pos hk3]; exact ⟨rfl, Below.refl _ _⟩)))
            simp only [Act.put, List.setIfInBounds_toArray, List.set_cons_zero, List.set_cons_succ]
            apply wpY_takeA 2; (case ho' => exact rfl); (case hg => exact rfl); (case hB => kernel_rfl); (case hW => kernel_rfl); (case h => (intro w1 h1; have hc := (c.below h1 c.lt).cellIs (qfn_get _ hkn); go_simp; exact ⟨rfl, Below.refl _ _⟩))
            simp only [Act.put, List.setIfInBounds_toArray, List.set_cons_zero, List.set_cons_succ]
            apply wpY_takeB 3; (case ho' => exact rfl); (case hg => exact rfl); (case hB => kernel_rfl); (case h => (intro w1; go_simp; exact ⟨rfl, Below.refl _ _⟩))
            simp only [Act.put, List.setIfInBounds_toArray, List.set_cons_zero, List.set_cons_succ]
            apply wpY_takeB 4; (case ho' => exact rfl); (case hg => exact rfl); (case hB => kernel_rfl); (case h => (intro w1; go_simp; first | exact ⟨rfl, Below.refl _ _⟩ | (rw [if_pos hk3]; exact ⟨rfl, Below.refl _ _⟩)))
            simp only [Act.put, List.setIfInBounds_toArray, List.set_cons_zero, List.set_cons_succ]
            apply wpY_takeA 5; (case ho' => exact rfl); (case hg => exact rfl); (case hB => kernel_rfl); (case hW => kernel_rfl); (case h => (intro w1 h1; have hc := (d.below h1 d.lt).cellIs (qfn_get _ hkn); go_simp; exact ⟨rfl, Below.refl _ _⟩))
            simp only [Act.put, List.setIfInBounds_toArray, List.set_cons_zero, List.set_cons_succ]
            apply wpY_takeA 6; (case ho' => exact rfl); (case hg => exact rfl); (case hB => kernel_rfl); (case hW => kernel_rfl); (case h => (intro w1 h1; go_simp; refine (AK.out _).mono ?_; rintro e w2 ⟨rfl, h2⟩; exact ⟨rfl, h2⟩))
            simp only [Act.put, List.setIfInBounds_toArray, List.set_cons_zero, List.set_cons_succ]
            refine wpY_end (by kernel_rfl) (fun we75 ht => ?_)
            replace hB := hB.trans (ht.mono hB.size)
            replace c := c.below ht c.lt
            replace d := d.below ht d.lt
            clear ht
            go_wp2_with (fail)
            go_roundg (4 - (k + 1))
            case rel =>
              exact ⟨k + 1, by omega, rfl, c, d, hB⟩
            case measure => omega
          · obtain rfl : k = 4 := by omega
            go_wp2_with (first
              | (go_at_call 14; refine (awakeQ_any _).mono ?_; rintro e wx ⟨rfl, hb⟩; replace hB := hB.trans (hb.mono hB.size); clear hb))
            go_ret
            exact ⟨rfl, hB⟩
theorem qbetween_any (f h : Nat → Int) (w : World) (hh : ∀ i, i < 3 → I64 (h i)) : Calls Try.prog 5 #[.agg (qfn f), .agg (vfn h)] w fun e w' => e = .returned (.bool true) ∧ Below w.heap.size w w' := by
  refine qbetween_walk f h (lunF f) (turnF (qunF f) h) (betF (qunF f) (turnF (qunF f) h)) (qunF (rq h)) (lunB f) w (fun w => lunit_any f w) (fun hv hb => ?_)
  unfold lunB at hb
  rw [Bool.and_eq_true, beq_iff_eq] at hb
  obtain ⟨hk, he⟩ := hb
  have hz : zQ f = false := by
    cases hz : zQ f with
    | false => rfl
    | true => unfold qunE at he; rw [hk, hz] at he; cases he
  have hF : lunF f = qunF f := by unfold lunF; rw [hk]; rfl
  obtain ⟨c1, c2, c3, c4, c5, c6⟩ := between_all hk hz hv
  rw [hF]
  refine ⟨fun w => ?_, fun w => ?_, fun w => ?_, c6⟩
  · have := turn_any (qunF f) h w (okQ_I c1) hh; rwa [c3] at this
  · have := between_any (qunF f) (turnF (qunF f) h) w (okQ_I c1) (okQ_I c2); rwa [c4] at this
  · have := qunit_any (rq h) w; rw [← rq_cells] at this; rwa [c5] at this
end Go.Proofs.Ytcgpcehdeihalaa
