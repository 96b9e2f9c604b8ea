/-
  VectorsLengths returns true: the walk.
-/
import Derived.Test.YthkklhfnmodpnaaLenN
import Derived.Test.YthkklhfnmodpnaaVUnitP
import Derived.Test.YthkklhfnmodpnaaLawVec
import Derived.BigQuiet
set_option linter.unusedSimpArgs false
set_option linter.unusedVariables false
namespace Go.Proofs.Ythkklhfnmodpnaa
open Go.RowKit PM Dt
set_option maxRecDepth 100000 in
set_option maxHeartbeats 2000000 in
theorem vlen_out (f : Nat → Int) (m : Int) (w : World) (h : (okV f && !zV f) = false) : Calls Try.prog 14 #[.agg (vfn f), .int .i64 m] w fun e w' => e = .returned (.bool true) ∧ Below w.heap.size w w' := by
  have S1 := Lib.hid (fun w => small_any f 1099511627776 w (by omega) (by omega))
  have EQ0 := vec_eq0 f
  have e0 : smallB f 1099511627776 = okV f := rfl
  rw [e0] at S1
  generalize okV f = bk at *
  generalize zV f = bz at *
  clear e0
  go_enter Try.func14, Try.ntmps14
  go_upto_region 1 with (fail)
  have p : blk (w.alloc (.cells (vfn f) 23)) w.heap.size (vfn f) 23 := blk.new _ _ _
  have hB : Below w.heap.size w (w.alloc (.cells (vfn f) 23)) := by go_grown
  generalize w.alloc (.cells (vfn f) 23) = w0 at *
  cases bk <;> cases bz
  case true.false => cases h
  all_goals
    clear h
    go_wp2_with (first | (refine wpList_load_rowG ?hw _ _ rfl _ rfl _ _ _ _ p Try.underlying23 rfl ?hi ?_; (case hw => (first | rfl | (simp [Region.wanted, yielded]; done))); (case hi => (rw [vfn_size]; kernel_rfl))) | (go_at_call 50; with_reducible refine (S1.out _).mono ?_; rintro e w1 ⟨rfl, hb⟩; replace hB := hB.trans (hb.mono hB.size); replace p := p.below hb p.lt; clear hb) | (go_at_call 23; refine (awakeV_any _).mono ?_; rintro e wx ⟨rfl, hb⟩; replace hB := hB.trans (hb.mono hB.size); clear hb))
    go_ret
    exact ⟨rfl, hB⟩
theorem len_wraps {l : Nat → Int} {m : Int} (hm : 0 ≤ m ∧ m ≤ 1073741824) (hl : ∀ i, i < 3 → -m ≤ l i ∧ l i ≤ m) (hs : l 0 * l 0 + l 1 * l 1 + l 2 * l 2 ≤ m * m) :
    IntKind.i64.wrap (l 0 * l 0) = l 0 * l 0 ∧ IntKind.i64.wrap (l 1 * l 1) = l 1 * l 1 ∧ IntKind.i64.wrap (l 2 * l 2) = l 2 * l 2 ∧ IntKind.i64.wrap (l 0 * l 0 + l 1 * l 1) = l 0 * l 0 + l 1 * l 1 ∧ IntKind.i64.wrap (l 0 * l 0 + l 1 * l 1 + l 2 * l 2) = l 0 * l 0 + l 1 * l 1 + l 2 * l 2 ∧ IntKind.i64.wrap (m * m) = m * m ∧ decide (l 0 * l 0 + l 1 * l 1 + l 2 * l 2 ≤ m * m) = true := by
  have h : m * m ≤ 1073741824 * 1073741824 := sq_mono hm.1 hm.2
  have n0 := sq_nn (l 0)
  have n1 := sq_nn (l 1)
  have n2 := sq_nn (l 2)
  have nm := sq_nn m
  generalize l 0 * l 0 = y0 at *
  generalize l 1 * l 1 = y1 at *
  generalize l 2 * l 2 = y2 at *
  generalize m * m = ym at *
  simp only [IntKind.wrap_i64]
  exact ⟨by omega, by omega, by omega, by omega, by omega, by omega, decide_eq_true hs⟩
set_option maxRecDepth 100000 in
set_option maxHeartbeats 4000000 in
theorem vlen_in (f u c l : Nat → Int) (n off size m : Int) (w : World) (hm : I64 m)
    (S1 : Hid (∀ w, Calls Try.prog 50 #[.agg (vfn f), .int .i64 1099511627776] w fun e w' => e = .returned (.bool true) ∧ Below w.heap.size w w')) (EQ0 : Hid (∀ w : World, (Op.equalIn 10000 23 (.agg (vfn f)) (.agg #[.int .i64 0, .int .i64 0, .int .i64 0])).run Try.prog w = .ok false w))
    (C1 : Hid (∀ w, Calls Try.prog 46 #[.agg (vfn f)] w fun e w' => e = .returned (.tuple #[.agg (vfn u), .int .i64 0]) ∧ Below w.heap.size w w')) (N1 : Hid (∀ w, Calls Try.prog 51 #[.agg (vfn u)] w fun e w' => e = .returned (.tuple #[.int .i64 n, .int .i64 0]) ∧ Below w.heap.size w w')) (hn : n = 1073741824 ∨ n = 1073741823) (X1 : Hid (∀ w, Calls Try.prog 52 #[.agg (vfn u), .agg (vfn f)] w fun e w' => e = .returned (.tuple #[.agg (vfn c), .int .i64 0]) ∧ Below w.heap.size w w')) (N2 : Hid (∀ w, Calls Try.prog 51 #[.agg (vfn c)] w fun e w' => e = .returned (.tuple #[.int .i64 off, .int .i64 0]) ∧ Below w.heap.size w w')) (N3 : Hid (∀ w, Calls Try.prog 51 #[.agg (vfn f)] w fun e w' => e = .returned (.tuple #[.int .i64 size, .int .i64 0]) ∧ Below w.heap.size w w')) (ho : 0 ≤ off) (hs : 0 ≤ size) (hs2 : I64 size) (hoff : off ≤ size / 1073741824 + 2)
    (L1 : 0 ≤ m → m ≤ 1073741824 → Hid (∀ w, Calls Try.prog 48 #[.agg (vfn f), .int .i64 m] w fun e w' => e = .returned (.tuple #[.agg (vfn l), .int .i64 0]) ∧ Below w.heap.size w w') ∧ Hid (∀ w, Calls Try.prog 50 #[.agg (vfn l), .int .i64 m] w fun e w' => e = .returned (.bool true) ∧ Below w.heap.size w w') ∧ Hid ((∀ i, i < 3 → -m ≤ l i ∧ l i ≤ m) ∧ (∀ i, i < 3 → l i ≠ 0 → (l i < 0 ↔ f i < 0)) ∧ l 0 * l 0 + l 1 * l 1 + l 2 * l 2 ≤ m * m)) :
    Calls Try.prog 14 #[.agg (vfn f), .int .i64 m] w fun e w' => e = .returned (.bool true) ∧ Below w.heap.size w w' := by
  have hq : size.tdiv 1073741824 = size / 1073741824 := Int.tdiv_eq_ediv_of_nonneg hs
  have hw1 : IntKind.i64.wrap (size / 1073741824) = size / 1073741824 := by have := hs2.2; rw [IntKind.wrap_i64]; omega
  have hw2 : IntKind.i64.wrap (size / 1073741824 + 2) = size / 1073741824 + 2 := by have := hs2.2; rw [IntKind.wrap_i64]; omega
  have d1 : decide (size / 1073741824 + 2 < off) = false := decide_eq_false (by omega)
  clear ho hs hs2 hoff
  go_enter Try.func14, Try.ntmps14
  go_upto_region 1 with (fail)
  have p : blk (w.alloc (.cells (vfn f) 23)) w.heap.size (vfn f) 23 := blk.new _ _ _
  have hB : Below w.heap.size w (w.alloc (.cells (vfn f) 23)) := by go_grown
  generalize w.alloc (.cells (vfn f) 23) = w0 at *
  have EQ := EQ0.out
  go_upto_region 4 with (first
    | (refine wpList_load_rowG ?hw _ _ rfl _ rfl _ _ _ _ p Try.underlying23 rfl ?hi ?_; (case hw => (first | rfl | (simp [Region.wanted, yielded]; done))); (case hi => (rw [vfn_size]; kernel_rfl)))
    | (go_at_call 50; with_reducible refine (S1.out _).mono ?_; rintro e wa ⟨rfl, hb⟩; replace hB := hB.trans (hb.mono hB.size); replace p := p.below hb p.lt; clear hb)
    | (go_at_call 46; with_reducible refine (C1.out _).mono ?_; rintro e w1 ⟨rfl, hb⟩; replace hB := hB.trans (hb.mono hB.size); replace p := p.below hb p.lt; clear hb)
    | (rw [zero_vec]; refine wpList_store_row rfl _ _ _ rfl _ rfl _ rfl _ _ (blk.new _ _ _) (by rw [vfn_size]; kernel_rfl) (by simp only [vfn_size]) (vfn_one _) ?_))
  have r1 := (blk.new w1 (vfn fun _ => 0) 23).row (vfn u)
  replace hB := Below.setRow (hB.alloc hB.size (.cells (vfn fun _ => 0) 23)) (g := w1.heap.size) hB.size (vfn u)
  have hne : ∀ x, x < w1.heap.size → x ≠ w1.heap.size := fun x hx => Nat.ne_of_lt hx
  replace p := (p.alloc (.cells (vfn fun _ => 0) 23)).rowOther (hne _ p.lt) (vfn u)
  clear hne
  generalize (w1.alloc (.cells (vfn fun _ => 0) 23)).setRow w1.heap.size (vfn u) = w1x at *
  generalize w1.heap.size = r1_b at *
  clear EQ
  rcases hn with rfl | rfl
  all_goals
    go_upto_region 5 with (first
      | (refine wpList_load_rowG ?hw _ _ rfl _ rfl _ _ _ _ r1 Try.underlying23 rfl ?hi ?_; (case hw => (first | rfl | (simp [Region.wanted, yielded]; done))); (case hi => (rw [vfn_size]; kernel_rfl)))
      | (go_at_call 51; with_reducible refine (N1.out _).mono ?_; rintro e w2 ⟨rfl, hb⟩; replace hB := hB.trans (hb.mono hB.size); replace p := p.below hb p.lt; replace r1 := r1.below hb r1.lt; clear hb))
    go_upto_region 8 with (first
      | (refine wpList_load_rowG ?hw _ _ rfl _ rfl _ _ _ _ r1 Try.underlying23 rfl ?hi ?_; (case hw => (first | rfl | (simp [Region.wanted, yielded]; done))); (case hi => (rw [vfn_size]; kernel_rfl)))
      | (refine wpList_load_rowG ?hw _ _ rfl _ rfl _ _ _ _ p Try.underlying23 rfl ?hi ?_; (case hw => (first | rfl | (simp [Region.wanted, yielded]; done))); (case hi => (rw [vfn_size]; kernel_rfl)))
      | (go_at_call 52; with_reducible refine (X1.out _).mono ?_; rintro e w3 ⟨rfl, hb⟩; replace hB := hB.trans (hb.mono hB.size); replace p := p.below hb p.lt; replace r1 := r1.below hb r1.lt; clear hb)
      | (rw [zero_vec]; refine wpList_store_row rfl _ _ _ rfl _ rfl _ rfl _ _ (blk.new _ _ _) (by rw [vfn_size]; kernel_rfl) (by simp only [vfn_size]) (vfn_one _) ?_))
    have r2 := (blk.new w3 (vfn fun _ => 0) 23).row (vfn c)
    replace hB := Below.setRow (hB.alloc hB.size (.cells (vfn fun _ => 0) 23)) (g := w3.heap.size) hB.size (vfn c)
    have hne : ∀ x, x < w3.heap.size → x ≠ w3.heap.size := fun x hx => Nat.ne_of_lt hx
    replace p := (p.alloc (.cells (vfn fun _ => 0) 23)).rowOther (hne _ p.lt) (vfn c)
    replace r1 := (r1.alloc (.cells (vfn fun _ => 0) 23)).rowOther (hne _ r1.lt) (vfn c)
    clear hne
    generalize (w3.alloc (.cells (vfn fun _ => 0) 23)).setRow w3.heap.size (vfn c) = w3x at *
    generalize w3.heap.size = r2_b at *
    go_upto_region 10 with (first
      | (refine wpList_load_rowG ?hw _ _ rfl _ rfl _ _ _ _ r2 Try.underlying23 rfl ?hi ?_; (case hw => (first | rfl | (simp [Region.wanted, yielded]; done))); (case hi => (rw [vfn_size]; kernel_rfl)))
      | (refine wpList_load_rowG ?hw _ _ rfl _ rfl _ _ _ _ p Try.underlying23 rfl ?hi ?_; (case hw => (first | rfl | (simp [Region.wanted, yielded]; done))); (case hi => (rw [vfn_size]; kernel_rfl)))
      | (go_at_call 51; with_reducible refine (N2.out _).mono ?_; rintro e w4 ⟨rfl, hb⟩; replace hB := hB.trans (hb.mono hB.size); replace p := p.below hb p.lt; replace r2 := r2.below hb r2.lt; clear hb)
      | (go_at_call 51; with_reducible refine (N3.out _).mono ?_; rintro e w4 ⟨rfl, hb⟩; replace hB := hB.trans (hb.mono hB.size); replace p := p.below hb p.lt; replace r2 := r2.below hb r2.lt; clear hb))
    clear r1 r2
    by_cases hm0 : m < 0
    · have dm : decide (m < 0) = true := decide_eq_true hm0
      clear hm0 L1
      go_wp2_with ((go_at_call 23; refine (awakeV_any _).mono ?_; rintro e wx ⟨rfl, hb⟩; replace hB := hB.trans (hb.mono hB.size); clear hb))
      go_ret
      exact ⟨rfl, hB⟩
    have dm : decide (m < 0) = false := decide_eq_false hm0
    by_cases hm1 : 1073741824 < m
    · have dm1 : decide (1073741824 < m) = true := decide_eq_true hm1
      clear hm0 hm1 L1
      go_wp2_with ((go_at_call 23; refine (awakeV_any _).mono ?_; rintro e wx ⟨rfl, hb⟩; replace hB := hB.trans (hb.mono hB.size); clear hb))
      go_ret
      exact ⟨rfl, hB⟩
    have dm1 : decide (1073741824 < m) = false := decide_eq_false hm1
    obtain ⟨LL, S2, LC⟩ := L1 (by omega) (by omega)
    have HM := Lib.hid (show 0 ≤ m ∧ m ≤ 1073741824 from ⟨by omega, by omega⟩)
    clear hm0 hm1 L1
    go_upto_region 15 with (first
      | (refine wpList_load_rowG ?hw _ _ rfl _ rfl _ _ _ _ p Try.underlying23 rfl ?hi ?_; (case hw => (first | rfl | (simp [Region.wanted, yielded]; done))); (case hi => (rw [vfn_size]; kernel_rfl)))
      | (go_at_call 48; with_reducible refine (LL.out _).mono ?_; rintro e w5 ⟨rfl, hb⟩; replace hB := hB.trans (hb.mono hB.size); replace p := p.below hb p.lt; clear hb)
      | (rw [zero_vec]; refine wpList_store_row rfl _ _ _ rfl _ rfl _ rfl _ _ (blk.new _ _ _) (by rw [vfn_size]; kernel_rfl) (by simp only [vfn_size]) (vfn_one _) ?_))
    have r3 := (blk.new w5 (vfn fun _ => 0) 23).row (vfn l)
    replace hB := Below.setRow (hB.alloc hB.size (.cells (vfn fun _ => 0) 23)) (g := w5.heap.size) hB.size (vfn l)
    have hne : ∀ x, x < w5.heap.size → x ≠ w5.heap.size := fun x hx => Nat.ne_of_lt hx
    replace p := (p.alloc (.cells (vfn fun _ => 0) 23)).rowOther (hne _ p.lt) (vfn l)
    clear hne
    generalize (w5.alloc (.cells (vfn fun _ => 0) 23)).setRow w5.heap.size (vfn l) = w5x at *
    generalize w5.heap.size = r3_b at *
    go_upto_region 17 with (first
      | (refine wpList_load_rowG ?hw _ _ rfl _ rfl _ _ _ _ r3 Try.underlying23 rfl ?hi ?_; (case hw => (first | rfl | (simp [Region.wanted, yielded]; done))); (case hi => (rw [vfn_size]; kernel_rfl)))
      | (go_at_call 50; with_reducible refine (S2.out _).mono ?_; rintro e w6 ⟨rfl, hb⟩; replace hB := hB.trans (hb.mono hB.size); replace p := p.below hb p.lt; replace r3 := r3.below hb r3.lt; clear hb))
    go_wp2_with (fail)
    go_loopg [17] 3 (fun g_ iv wr => ∃ k : Nat, g_ + k = 3 ∧ iv = .int .i64 k ∧ blk wr w.heap.size (vfn f) 23 ∧ blk wr r3_b (vfn l) 23 ∧ Below w.heap.size w wr)
    case atStart => exact ⟨0, rfl, rfl, p, r3, hB⟩
    case round =>
      clear p r3 hB
      obtain ⟨k, hk, rfl, p, r3, hB⟩ := hrel
      by_cases hkn : k < 3
      · have hdk : decide ((k : Int) < 3) = true := decide_eq_true (by omega)
        have hdk' : decide (k < 3) = true := decide_eq_true hkn
        have hk3 : (k : Int) < 3 := by omega
        have hw3 : IntKind.i64.wrap ((k : Int) + 1) = ((k + 1 : Nat) : Int) := by rw [IntKind.wrap_i64]; omega
        have cl : wr.cell? ⟨r3_b, k, none⟩ = some (.int .i64 (l k)) := r3.cellIs (vfn_get _ hkn)
        have cf : wr.cell? ⟨w.heap.size, k, none⟩ = some (.int .i64 (f k)) := p.cellIs (vfn_get _ hkn)
        have hsg := LC.out.2.1 k hkn
        by_cases hz : l k = 0
        · have z1 : (l k != 0) = false := by simp [hz]
          have z2 : (l k == 0) = true := by simp [hz]
          clear hsg hz
          go_wp2_with (fail)
          go_quiet (fail)
          go_wp2_with (fail)
          go_roundg (3 - (k + 1))
          case rel => exact ⟨k + 1, by omega, rfl, p.drewN _, r3.drewN _, below_drewN hB _⟩
          case measure => omega
        · have z1 : (l k != 0) = true := by simpa using hz
          have z2 : (l k == 0) = false := by simpa using hz
          have hsg := hsg hz
          obtain ⟨bs, hs1⟩ : ∃ b, decide (l k < 0) = b := ⟨_, rfl⟩
          have hs2 : decide (f k < 0) = bs := by rw [← hs1]; exact decide_eq_decide.2 hsg.symm
          have hbb : (bs != bs) = false := by simp
          clear hsg hz
          go_wp2_with (fail)
          go_quiet (fail)
          go_wp2_with (fail)
          go_roundg (3 - (k + 1))
          case rel => exact ⟨k + 1, by omega, rfl, p.drewN _, r3.drewN _, below_drewN hB _⟩
          case measure => omega
      · obtain rfl : k = 3 := by omega
        have c0 : wr.cell? ⟨r3_b, 0, none⟩ = some (.int .i64 (l 0)) := r3.cellIs (vfn_get _ (by omega))
        have c1 : wr.cell? ⟨r3_b, 1, none⟩ = some (.int .i64 (l 1)) := r3.cellIs (vfn_get _ (by omega))
        have c2 : wr.cell? ⟨r3_b, 2, none⟩ = some (.int .i64 (l 2)) := r3.cellIs (vfn_get _ (by omega))
        obtain ⟨W0, W1, W2, W3, W4, W5, W6⟩ := len_wraps HM.out LC.out.1 LC.out.2.2
        generalize l 0 = y0 at *
        generalize l 1 = y1 at *
        generalize l 2 = y2 at *
        go_wp2_with ((go_at_call 23; refine (awakeV_any _).mono ?_; rintro e wx ⟨rfl, hb⟩; replace hB := hB.trans (hb.mono hB.size); clear hb))
        go_ret
        exact ⟨rfl, hB⟩
theorem vlengths_any (f : Nat → Int) (m : Int) (w : World) (hI : ∀ i, i < 3 → I64 (f i)) (hm : I64 m) : Calls Try.prog 14 #[.agg (vfn f), .int .i64 m] w fun e w' => e = .returned (.bool true) ∧ Below w.heap.size w w' := by
  cases h : (okV f && !zV f) with
  | false => exact vlen_out f m w h
  | true =>
    rw [Bool.and_eq_true] at h
    have hk := h.1
    have hz : zV f = false := by simpa using h.2
    obtain ⟨hku, hnE, hn⟩ := vun_norm hk hz
    obtain ⟨x1, x2, x3, x4, x5, x6⟩ := vun_cross hk hz
    obtain ⟨_, L, hL, _, _, hL3⟩ := norm_val hk
    have hE := (vun_core hk hz).1
    refine vlen_in f (vunF f) (vcrossF (vunF f) f) (limF f m) (normV (vunF f)) (normV (vcrossF (vunF f) f)) (normV f) m w hm (fun w => ?_) (fun w => by rw [vec_eq0 f w, hz]) (fun w => by have := vunit_any f w hI; rwa [hE] at this) (fun w => by have := vnorm_any (vunF f) w; rwa [hnE] at this) hn
      (fun w => by have := vcross_any (vunF f) f w; rwa [x1] at this) (fun w => by have := vnorm_any (vcrossF (vunF f) f) w; rwa [x2] at this) (fun w => by have := vnorm_any f w; rwa [x3] at this) x5 x4 (by rw [hL]; exact ⟨by omega, by omega⟩) x6 (fun h0 h1 => ⟨fun w => ?_, fun w => ?_, ?_⟩)
    · have := small_any f 1099511627776 w (by omega) (by omega)
      rwa [show smallB f 1099511627776 = true from hk] at this
    · have := vlimit_any f m w hI hm
      rwa [show limE f m = 0 from if_pos ⟨hk, h0, by omega⟩] at this
    · have := small_any (limF f m) m w h0 (by omega)
      rwa [show smallB (limF f m) m = true from (smallB_iff _ _).2 fun i hi => (sb_iff _ _).2 ((lim_core ⟨hk, h0, by omega⟩).1 i hi)] at this
    · exact lim_core ⟨hk, h0, by omega⟩
end Go.Proofs.Ythkklhfnmodpnaa
