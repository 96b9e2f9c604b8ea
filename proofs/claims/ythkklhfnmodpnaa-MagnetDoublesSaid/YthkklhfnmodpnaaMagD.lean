/-
  The magnetic field in a direction, in the package and in its specification.
-/
import Derived.Test.YthkklhfnmodpnaaMagA
set_option linter.unusedSimpArgs false
set_option linter.unusedVariables false
namespace Go.Proofs.Ythkklhfnmodpnaa
open Go.RowKit PM Dt
def atOk (f g : Nat → Int) : Bool := (normE f == 0) && ((normE g == 0) && (decide (1073741822 ≤ normV f) && (decide (normV f ≤ 1073741824) && decide (normV g ≤ 1073741824))))
def atX (f g : Nat → Int) (i : Nat) : Int := wrap64 (ratioV (wrap64 (3 * vdotV g f)) (f i) 1073741824 - g i)
def atF (f g : Nat → Int) : Nat → Int := if atOk f g then atX f g else fun _ => 0
def atE (f g : Nat → Int) : Int := if atOk f g then 0 else 2
theorem norm_ok {f : Nat → Int} (h : normE f = 0) : okV f = true := by
  cases hb : okV f with
  | true => rfl
  | false => unfold normE at h; rw [hb] at h; cases h
theorem wrap64_isI (a : Int) : I64 (wrap64 a) := by unfold wrap64; exact ⟨by omega, by omega⟩
set_option maxRecDepth 100000 in
set_option maxHeartbeats 4000000 in
theorem at_any (f g : Nat → Int) (w : World) (hg : ∀ i, i < 3 → I64 (g i)) : Calls Try.prog 42 #[.agg (vfn f), .agg (vfn g)] w fun e w' => e = .returned (.tuple #[.agg (vfn (atF f g)), .int .i64 (atE f g)]) ∧ Below w.heap.size w w' := by
  have N1 := Lib.hid (fun w => vnorm_any f w)
  have N2 := Lib.hid (fun w => vnorm_any g w)
  have D := Lib.hid (fun w => vdot_any g f w)
  have R := Lib.hid (fun (h : normE f = 0) (k : Nat) (hk : k < 3) (w : World) => ratio_any (wrap64 (3 * vdotV g f)) (f k) 1073741824 w (wrap64_isI _) (okV_I (norm_ok h) k hk) ⟨by decide, by decide⟩)
  unfold atF atE atOk
  obtain ⟨X, hX⟩ : ∃ X, X = atX f g := ⟨_, rfl⟩
  rw [← hX]
  have HX : Hid (∀ k, IntKind.i64.wrap (ratioV (wrap64 (3 * vdotV g f)) (f k) 1073741824 - g k) = X k) := by intro k; rw [hX, IntKind.wrap_i64]; simp only [atX, wrap64]
  have HW : Hid (IntKind.i64.wrap (3 * vdotV g f) = wrap64 (3 * vdotV g f)) := by show _ = _; rw [IntKind.wrap_i64]; simp only [wrap64]
  clear hX hg
  generalize wrap64 (3 * vdotV g f) = W at *
  generalize vdotV g f = dv at *
  generalize vdotE g f = de at *
  generalize normV f = n1 at *
  generalize normE f = e1 at *
  generalize normV g = n2 at *
  generalize normE g = e2 at *
  obtain ⟨bk, hbk⟩ : ∃ b, b = ((e1 == 0) && ((e2 == 0) && (decide (1073741822 ≤ n1) && (decide (n1 ≤ 1073741824) && decide (n2 ≤ 1073741824))))) := ⟨_, rfl⟩
  rw [← hbk]
  go_enter Try.func42, Try.ntmps42
  go_upto_region 1 with (fail)
  rw [zero_vec]
  have p : blk (((w.alloc (.cells (vfn f) 23)).alloc (.cells (vfn g) 23)).alloc (.cells (vfn fun _ => 0) 23)) w.heap.size (vfn f) 23 := ((blk.new _ _ _).alloc _).alloc _
  have q : blk (((w.alloc (.cells (vfn f) 23)).alloc (.cells (vfn g) 23)).alloc (.cells (vfn fun _ => 0) 23)) (w.heap.size + 1) (vfn g) 23 := (blk.new' (by simp)).alloc _
  have r : blk (((w.alloc (.cells (vfn f) 23)).alloc (.cells (vfn g) 23)).alloc (.cells (vfn fun _ => 0) 23)) (w.heap.size + 1 + 1) (vfn fun _ => 0) 23 := blk.new' (by simp)
  have hB : Below w.heap.size w (((w.alloc (.cells (vfn f) 23)).alloc (.cells (vfn g) 23)).alloc (.cells (vfn fun _ => 0) 23)) := by go_grown
  generalize ((w.alloc (.cells (vfn f) 23)).alloc (.cells (vfn g) 23)).alloc (.cells (vfn fun _ => 0) 23) = w0 at *
  by_cases h1 : e1 = 0
  case neg =>
    have d1 : (e1 != 0) = true := by simpa using h1
    have z1 : (e1 == 0) = false := by simpa using h1
    obtain rfl : bk = false := by rw [hbk, z1]; rfl
    clear h1 R hbk
    go_wp2_with (first | (refine wpList_load_rowG ?hw _ _ rfl _ rfl _ _ _ _ p Try.underlying23 rfl ?hi ?_; (case hw => (first | rfl | (simp [Region.wanted, yielded]; done))); (case hi => (rw [vfn_size]; kernel_rfl))) | (refine wpList_load_rowG ?hw _ _ rfl _ rfl _ _ _ _ q Try.underlying23 rfl ?hi ?_; (case hw => (first | rfl | (simp [Region.wanted, yielded]; done))); (case hi => (rw [vfn_size]; kernel_rfl))) | (go_at_call 51; with_reducible refine (N1.out _).mono ?_; rintro e w1 ⟨rfl, hb⟩; replace hB := hB.trans (hb.mono hB.size); replace p := p.below hb p.lt; replace q := q.below hb q.lt; replace r := r.below hb r.lt; clear hb) | (go_at_call 51; with_reducible refine (N2.out _).mono ?_; rintro e w2 ⟨rfl, hb⟩; replace hB := hB.trans (hb.mono hB.size); replace p := p.below hb p.lt; replace q := q.below hb q.lt; replace r := r.below hb r.lt; clear hb) | (rw [zero_vec]; refine wpList_store_row rfl _ _ _ rfl _ rfl _ rfl _ _ r (by rw [vfn_size]; kernel_rfl) (by simp only [vfn_size]) (vfn_one _) ?_))
    refine bodyPost_ret (results_vec rfl _ _ _ _ _ _ _ rfl (r.row (vfn (fun _ => 0))) Try.underlying23 rfl (by rw [vfn_size]; kernel_rfl)) rfl ?_; refine ⟨?_, Below.setRow hB (by omega) _⟩
    rfl
  have d1 : (e1 != 0) = false := by simp [h1]
  have z1 : (e1 == 0) = true := by simp [h1]
  replace R := Lib.hid (R.out h1)
  clear h1
  by_cases h2 : e2 = 0
  case neg =>
    have d2 : (e2 != 0) = true := by simpa using h2
    have z2 : (e2 == 0) = false := by simpa using h2
    obtain rfl : bk = false := by rw [hbk, z1, z2]; rfl
    clear h2 R hbk
    go_wp2_with (first | (refine wpList_load_rowG ?hw _ _ rfl _ rfl _ _ _ _ p Try.underlying23 rfl ?hi ?_; (case hw => (first | rfl | (simp [Region.wanted, yielded]; done))); (case hi => (rw [vfn_size]; kernel_rfl))) | (refine wpList_load_rowG ?hw _ _ rfl _ rfl _ _ _ _ q Try.underlying23 rfl ?hi ?_; (case hw => (first | rfl | (simp [Region.wanted, yielded]; done))); (case hi => (rw [vfn_size]; kernel_rfl))) | (go_at_call 51; with_reducible refine (N1.out _).mono ?_; rintro e w1 ⟨rfl, hb⟩; replace hB := hB.trans (hb.mono hB.size); replace p := p.below hb p.lt; replace q := q.below hb q.lt; replace r := r.below hb r.lt; clear hb) | (go_at_call 51; with_reducible refine (N2.out _).mono ?_; rintro e w2 ⟨rfl, hb⟩; replace hB := hB.trans (hb.mono hB.size); replace p := p.below hb p.lt; replace q := q.below hb q.lt; replace r := r.below hb r.lt; clear hb) | (rw [zero_vec]; refine wpList_store_row rfl _ _ _ rfl _ rfl _ rfl _ _ r (by rw [vfn_size]; kernel_rfl) (by simp only [vfn_size]) (vfn_one _) ?_))
    refine bodyPost_ret (results_vec rfl _ _ _ _ _ _ _ rfl (r.row (vfn (fun _ => 0))) Try.underlying23 rfl (by rw [vfn_size]; kernel_rfl)) rfl ?_; refine ⟨?_, Below.setRow hB (by omega) _⟩
    rfl
  have d2 : (e2 != 0) = false := by simp [h2]
  have z2 : (e2 == 0) = true := by simp [h2]
  clear h2
  by_cases h3 : (1073741822 : Int) ≤ n1
  case neg =>
    have d3 : decide (n1 < 1073741822) = true := decide_eq_true (by omega)
    have z3 : decide ((1073741822 : Int) ≤ n1) = false := decide_eq_false h3
    obtain rfl : bk = false := by rw [hbk, z1, z2, z3]; rfl
    clear h3 R hbk
    go_wp2_with (first | (refine wpList_load_rowG ?hw _ _ rfl _ rfl _ _ _ _ p Try.underlying23 rfl ?hi ?_; (case hw => (first | rfl | (simp [Region.wanted, yielded]; done))); (case hi => (rw [vfn_size]; kernel_rfl))) | (refine wpList_load_rowG ?hw _ _ rfl _ rfl _ _ _ _ q Try.underlying23 rfl ?hi ?_; (case hw => (first | rfl | (simp [Region.wanted, yielded]; done))); (case hi => (rw [vfn_size]; kernel_rfl))) | (go_at_call 51; with_reducible refine (N1.out _).mono ?_; rintro e w1 ⟨rfl, hb⟩; replace hB := hB.trans (hb.mono hB.size); replace p := p.below hb p.lt; replace q := q.below hb q.lt; replace r := r.below hb r.lt; clear hb) | (go_at_call 51; with_reducible refine (N2.out _).mono ?_; rintro e w2 ⟨rfl, hb⟩; replace hB := hB.trans (hb.mono hB.size); replace p := p.below hb p.lt; replace q := q.below hb q.lt; replace r := r.below hb r.lt; clear hb) | (rw [zero_vec]; refine wpList_store_row rfl _ _ _ rfl _ rfl _ rfl _ _ r (by rw [vfn_size]; kernel_rfl) (by simp only [vfn_size]) (vfn_one _) ?_))
    refine bodyPost_ret (results_vec rfl _ _ _ _ _ _ _ rfl (r.row (vfn (fun _ => 0))) Try.underlying23 rfl (by rw [vfn_size]; kernel_rfl)) rfl ?_; refine ⟨?_, Below.setRow hB (by omega) _⟩
    rfl
  have d3 : decide (n1 < 1073741822) = false := decide_eq_false (by omega)
  have z3 : decide ((1073741822 : Int) ≤ n1) = true := decide_eq_true h3
  clear h3
  by_cases h4 : n1 ≤ 1073741824
  case neg =>
    have d4 : decide (1073741824 < n1) = true := decide_eq_true (by omega)
    have z4 : decide (n1 ≤ 1073741824) = false := decide_eq_false h4
    obtain rfl : bk = false := by rw [hbk, z1, z2, z3, z4]; rfl
    clear h4 R hbk
    go_wp2_with (first | (refine wpList_load_rowG ?hw _ _ rfl _ rfl _ _ _ _ p Try.underlying23 rfl ?hi ?_; (case hw => (first | rfl | (simp [Region.wanted, yielded]; done))); (case hi => (rw [vfn_size]; kernel_rfl))) | (refine wpList_load_rowG ?hw _ _ rfl _ rfl _ _ _ _ q Try.underlying23 rfl ?hi ?_; (case hw => (first | rfl | (simp [Region.wanted, yielded]; done))); (case hi => (rw [vfn_size]; kernel_rfl))) | (go_at_call 51; with_reducible refine (N1.out _).mono ?_; rintro e w1 ⟨rfl, hb⟩; replace hB := hB.trans (hb.mono hB.size); replace p := p.below hb p.lt; replace q := q.below hb q.lt; replace r := r.below hb r.lt; clear hb) | (go_at_call 51; with_reducible refine (N2.out _).mono ?_; rintro e w2 ⟨rfl, hb⟩; replace hB := hB.trans (hb.mono hB.size); replace p := p.below hb p.lt; replace q := q.below hb q.lt; replace r := r.below hb r.lt; clear hb) | (rw [zero_vec]; refine wpList_store_row rfl _ _ _ rfl _ rfl _ rfl _ _ r (by rw [vfn_size]; kernel_rfl) (by simp only [vfn_size]) (vfn_one _) ?_))
    refine bodyPost_ret (results_vec rfl _ _ _ _ _ _ _ rfl (r.row (vfn (fun _ => 0))) Try.underlying23 rfl (by rw [vfn_size]; kernel_rfl)) rfl ?_; refine ⟨?_, Below.setRow hB (by omega) _⟩
    rfl
  have d4 : decide (1073741824 < n1) = false := decide_eq_false (by omega)
  have z4 : decide (n1 ≤ 1073741824) = true := decide_eq_true h4
  clear h4
  by_cases h5 : n2 ≤ 1073741824
  case neg =>
    have d5 : decide (1073741824 < n2) = true := decide_eq_true (by omega)
    have z5 : decide (n2 ≤ 1073741824) = false := decide_eq_false h5
    obtain rfl : bk = false := by rw [hbk, z1, z2, z3, z4, z5]; rfl
    clear h5 R hbk
    go_wp2_with (first | (refine wpList_load_rowG ?hw _ _ rfl _ rfl _ _ _ _ p Try.underlying23 rfl ?hi ?_; (case hw => (first | rfl | (simp [Region.wanted, yielded]; done))); (case hi => (rw [vfn_size]; kernel_rfl))) | (refine wpList_load_rowG ?hw _ _ rfl _ rfl _ _ _ _ q Try.underlying23 rfl ?hi ?_; (case hw => (first | rfl | (simp [Region.wanted, yielded]; done))); (case hi => (rw [vfn_size]; kernel_rfl))) | (go_at_call 51; with_reducible refine (N1.out _).mono ?_; rintro e w1 ⟨rfl, hb⟩; replace hB := hB.trans (hb.mono hB.size); replace p := p.below hb p.lt; replace q := q.below hb q.lt; replace r := r.below hb r.lt; clear hb) | (go_at_call 51; with_reducible refine (N2.out _).mono ?_; rintro e w2 ⟨rfl, hb⟩; replace hB := hB.trans (hb.mono hB.size); replace p := p.below hb p.lt; replace q := q.below hb q.lt; replace r := r.below hb r.lt; clear hb) | (rw [zero_vec]; refine wpList_store_row rfl _ _ _ rfl _ rfl _ rfl _ _ r (by rw [vfn_size]; kernel_rfl) (by simp only [vfn_size]) (vfn_one _) ?_))
    refine bodyPost_ret (results_vec rfl _ _ _ _ _ _ _ rfl (r.row (vfn (fun _ => 0))) Try.underlying23 rfl (by rw [vfn_size]; kernel_rfl)) rfl ?_; refine ⟨?_, Below.setRow hB (by omega) _⟩
    rfl
  have d5 : decide (1073741824 < n2) = false := decide_eq_false (by omega)
  have z5 : decide (n2 ≤ 1073741824) = true := decide_eq_true h5
  clear h5
  obtain rfl : bk = true := by rw [hbk, z1, z2, z3, z4, z5]; rfl
  clear hbk
  go_upto_region 6 with (first | (refine wpList_load_rowG ?hw _ _ rfl _ rfl _ _ _ _ p Try.underlying23 rfl ?hi ?_; (case hw => (first | rfl | (simp [Region.wanted, yielded]; done))); (case hi => (rw [vfn_size]; kernel_rfl))) | (refine wpList_load_rowG ?hw _ _ rfl _ rfl _ _ _ _ q Try.underlying23 rfl ?hi ?_; (case hw => (first | rfl | (simp [Region.wanted, yielded]; done))); (case hi => (rw [vfn_size]; kernel_rfl))) | (go_at_call 51; with_reducible refine (N1.out _).mono ?_; rintro e w1 ⟨rfl, hb⟩; replace hB := hB.trans (hb.mono hB.size); replace p := p.below hb p.lt; replace q := q.below hb q.lt; replace r := r.below hb r.lt; clear hb) | (go_at_call 51; with_reducible refine (N2.out _).mono ?_; rintro e w2 ⟨rfl, hb⟩; replace hB := hB.trans (hb.mono hB.size); replace p := p.below hb p.lt; replace q := q.below hb q.lt; replace r := r.below hb r.lt; clear hb) | (go_at_call 44; with_reducible refine (D.out _).mono ?_; rintro e w3 ⟨rfl, hb⟩; replace hB := hB.trans (hb.mono hB.size); replace p := p.below hb p.lt; replace q := q.below hb q.lt; replace r := r.below hb r.lt; clear hb))
  go_upto_region 7 with (fail)
  rw [zero_vec]
  have m := blk.new w3 (vfn fun _ => 0) 23
  have mb1 : w.heap.size + 1 + 1 < w3.heap.size := r.lt
  replace p := p.alloc (.cells (vfn fun _ => 0) 23)
  replace q := q.alloc (.cells (vfn fun _ => 0) 23)
  replace r := r.alloc (.cells (vfn fun _ => 0) 23)
  replace hB := hB.alloc hB.size (.cells (vfn fun _ => 0) 23)
  generalize w3.alloc (.cells (vfn fun _ => 0) 23) = w4 at *
  generalize w3.heap.size = mb at *
  go_wp2_with (fail)
  go_loopg [51] 3 (fun g_ iv wr => ∃ k : Nat, g_ + k = 3 ∧ iv = .int .i64 k ∧ blk wr w.heap.size (vfn f) 23 ∧ blk wr (w.heap.size + 1) (vfn g) 23 ∧ blk wr (w.heap.size + 1 + 1) (vfn fun _ => 0) 23 ∧ blk wr mb (vfn (pre3 X k)) 23 ∧ Below w.heap.size w wr)
  case atStart => exact ⟨0, rfl, rfl, p, q, r, by rw [show vfn (pre3 X 0) = vfn (fun _ => 0) from vfn_congr fun i _ => by simp [pre3]]; exact m, hB⟩
  case round =>
    clear p q r m hB
    obtain ⟨k, hk, rfl, p, q, r, m, hB⟩ := hrel
    by_cases hkn : k < 3
    · have hdk : decide ((k : Int) < 3) = true := decide_eq_true (by omega)
      have hdk' : decide (k < 3) = true := decide_eq_true (by omega)
      have hw3 : IntKind.i64.wrap ((k : Int) + 1) = ((k + 1 : Nat) : Int) := by rw [IntKind.wrap_i64]; omega
      have hk3 : (k : Int) < 3 := by omega
      have ck : wr.cell? ⟨w.heap.size, k, none⟩ = some (.int .i64 (f k)) := p.cellIs (vfn_get _ hkn)
      have hW := HW.out
      have hX := HX.out k
      have RK := Lib.hid (R.out k hkn)
      generalize ratioV W (f k) 1073741824 = Y at *
      generalize ratioE W (f k) 1073741824 = YE at *
      go_wp2_with (go_at_call 82; refine (RK.out _).mono ?_; rintro e w5 ⟨rfl, hb⟩; replace hB := hB.trans (hb.mono hB.size); replace p := p.below hb p.lt; replace q := q.below hb q.lt; replace r := r.below hb r.lt; replace m := m.below hb m.lt; clear hb; have cg : w5.cell? ⟨w.heap.size + 1, k, none⟩ = some (.int .i64 (g k)) := q.cellIs (vfn_get _ hkn); have fz : w5.frozen? ⟨mb, k, none⟩ = false := m.free _; have cz : w5.cell? ⟨mb, k, none⟩ = some (.int .i64 (pre3 X k k)) := m.cellIs (vfn_get _ hkn))
      go_roundg (3 - (k + 1))
      case rel =>
        refine ⟨k + 1, by omega, rfl, p.setOther (by simp; omega) _, q.setOther (by simp; omega) _, r.setOther (by simp; omega) _, m.set' (vfn_set hkn ?_ ?_), hB.setCell (by simp; omega) _⟩
        · simp [pre3]
        · intro j hj hne; simp only [pre3]; split <;> split <;> first | rfl | omega
      case measure => omega
    · obtain rfl : k = 3 := by omega
      have e3 : vfn (pre3 X 3) = vfn X := vfn_congr fun i hi => by simp [pre3, hi]
      rw [e3] at m
      go_wp2_with (first | (refine wpList_load_rowG ?hw _ _ rfl _ rfl _ _ _ _ m Try.underlying23 rfl ?hi ?_; (case hw => (first | rfl | (simp [Region.wanted, yielded]; done))); (case hi => (rw [vfn_size]; kernel_rfl))) | (refine wpList_store_row rfl _ _ _ rfl _ rfl _ rfl _ _ r (by rw [vfn_size]; kernel_rfl) (by simp only [vfn_size]) (vfn_one _) ?_))
      refine bodyPost_ret (results_vec rfl _ _ _ _ _ _ _ rfl (r.row (vfn X)) Try.underlying23 rfl (by rw [vfn_size]; kernel_rfl)) rfl ?_; refine ⟨?_, Below.setRow hB (by omega) _⟩
      rfl
set_option maxRecDepth 100000 in
set_option maxHeartbeats 4000000 in
theorem rat_any (f g : Nat → Int) (w : World) (hg : ∀ i, i < 3 → I64 (g i)) : Calls Try.prog 43 #[.agg (vfn f), .agg (vfn g)] w fun e w' => e = .returned (.tuple #[.agg (vfn (atF f g)), .int .i64 (atE f g)]) ∧ Below w.heap.size w w' := by
  have N1 := Lib.hid (fun w => rvnorm_any f w)
  have N2 := Lib.hid (fun w => rvnorm_any g w)
  have D := Lib.hid (fun w => rvdot_any g f w)
  have R := Lib.hid (fun (h : normE f = 0) (k : Nat) (hk : k < 3) (w : World) => rratio_any (wrap64 (3 * vdotV g f)) (f k) 1073741824 w (wrap64_isI _) (okV_I (norm_ok h) k hk) ⟨by decide, by decide⟩)
  unfold atF atE atOk
  obtain ⟨X, hX⟩ : ∃ X, X = atX f g := ⟨_, rfl⟩
  rw [← hX]
  have HX : Hid (∀ k, IntKind.i64.wrap (ratioV (wrap64 (3 * vdotV g f)) (f k) 1073741824 - g k) = X k) := by intro k; rw [hX, IntKind.wrap_i64]; simp only [atX, wrap64]
  have HW : Hid (IntKind.i64.wrap (3 * vdotV g f) = wrap64 (3 * vdotV g f)) := by show _ = _; rw [IntKind.wrap_i64]; simp only [wrap64]
  clear hX hg
  generalize wrap64 (3 * vdotV g f) = W at *
  generalize vdotV g f = dv at *
  generalize vdotE g f = de at *
  generalize normV f = n1 at *
  generalize normE f = e1 at *
  generalize normV g = n2 at *
  generalize normE g = e2 at *
  obtain ⟨bk, hbk⟩ : ∃ b, b = ((e1 == 0) && ((e2 == 0) && (decide (1073741822 ≤ n1) && (decide (n1 ≤ 1073741824) && decide (n2 ≤ 1073741824))))) := ⟨_, rfl⟩
  rw [← hbk]
  go_enter Try.func43, Try.ntmps43
  go_upto_region 1 with (fail)
  rw [zero_vec]
  have p : blk (((w.alloc (.cells (vfn f) 23)).alloc (.cells (vfn g) 23)).alloc (.cells (vfn fun _ => 0) 23)) w.heap.size (vfn f) 23 := ((blk.new _ _ _).alloc _).alloc _
  have q : blk (((w.alloc (.cells (vfn f) 23)).alloc (.cells (vfn g) 23)).alloc (.cells (vfn fun _ => 0) 23)) (w.heap.size + 1) (vfn g) 23 := (blk.new' (by simp)).alloc _
  have r : blk (((w.alloc (.cells (vfn f) 23)).alloc (.cells (vfn g) 23)).alloc (.cells (vfn fun _ => 0) 23)) (w.heap.size + 1 + 1) (vfn fun _ => 0) 23 := blk.new' (by simp)
  have hB : Below w.heap.size w (((w.alloc (.cells (vfn f) 23)).alloc (.cells (vfn g) 23)).alloc (.cells (vfn fun _ => 0) 23)) := by go_grown
  generalize ((w.alloc (.cells (vfn f) 23)).alloc (.cells (vfn g) 23)).alloc (.cells (vfn fun _ => 0) 23) = w0 at *
  by_cases h1 : e1 = 0
  case neg =>
    have d1 : (e1 != 0) = true := by simpa using h1
    have z1 : (e1 == 0) = false := by simpa using h1
    obtain rfl : bk = false := by rw [hbk, z1]; rfl
    clear h1 R hbk
    go_wp2_with (first | (refine wpList_load_rowG ?hw _ _ rfl _ rfl _ _ _ _ p Try.underlying23 rfl ?hi ?_; (case hw => (first | rfl | (simp [Region.wanted, yielded]; done))); (case hi => (rw [vfn_size]; kernel_rfl))) | (refine wpList_load_rowG ?hw _ _ rfl _ rfl _ _ _ _ q Try.underlying23 rfl ?hi ?_; (case hw => (first | rfl | (simp [Region.wanted, yielded]; done))); (case hi => (rw [vfn_size]; kernel_rfl))) | (go_at_call 83; with_reducible refine (N1.out _).mono ?_; rintro e w1 ⟨rfl, hb⟩; replace hB := hB.trans (hb.mono hB.size); replace p := p.below hb p.lt; replace q := q.below hb q.lt; replace r := r.below hb r.lt; clear hb) | (go_at_call 83; with_reducible refine (N2.out _).mono ?_; rintro e w2 ⟨rfl, hb⟩; replace hB := hB.trans (hb.mono hB.size); replace p := p.below hb p.lt; replace q := q.below hb q.lt; replace r := r.below hb r.lt; clear hb) | (rw [zero_vec]; refine wpList_store_row rfl _ _ _ rfl _ rfl _ rfl _ _ r (by rw [vfn_size]; kernel_rfl) (by simp only [vfn_size]) (vfn_one _) ?_))
    refine bodyPost_ret (results_vec rfl _ _ _ _ _ _ _ rfl (r.row (vfn (fun _ => 0))) Try.underlying23 rfl (by rw [vfn_size]; kernel_rfl)) rfl ?_; refine ⟨?_, Below.setRow hB (by omega) _⟩
    rfl
  have d1 : (e1 != 0) = false := by simp [h1]
  have z1 : (e1 == 0) = true := by simp [h1]
  replace R := Lib.hid (R.out h1)
  clear h1
  by_cases h2 : e2 = 0
  case neg =>
    have d2 : (e2 != 0) = true := by simpa using h2
    have z2 : (e2 == 0) = false := by simpa using h2
    obtain rfl : bk = false := by rw [hbk, z1, z2]; rfl
    clear h2 R hbk
    go_wp2_with (first | (refine wpList_load_rowG ?hw _ _ rfl _ rfl _ _ _ _ p Try.underlying23 rfl ?hi ?_; (case hw => (first | rfl | (simp [Region.wanted, yielded]; done))); (case hi => (rw [vfn_size]; kernel_rfl))) | (refine wpList_load_rowG ?hw _ _ rfl _ rfl _ _ _ _ q Try.underlying23 rfl ?hi ?_; (case hw => (first | rfl | (simp [Region.wanted, yielded]; done))); (case hi => (rw [vfn_size]; kernel_rfl))) | (go_at_call 83; with_reducible refine (N1.out _).mono ?_; rintro e w1 ⟨rfl, hb⟩; replace hB := hB.trans (hb.mono hB.size); replace p := p.below hb p.lt; replace q := q.below hb q.lt; replace r := r.below hb r.lt; clear hb) | (go_at_call 83; with_reducible refine (N2.out _).mono ?_; rintro e w2 ⟨rfl, hb⟩; replace hB := hB.trans (hb.mono hB.size); replace p := p.below hb p.lt; replace q := q.below hb q.lt; replace r := r.below hb r.lt; clear hb) | (rw [zero_vec]; refine wpList_store_row rfl _ _ _ rfl _ rfl _ rfl _ _ r (by rw [vfn_size]; kernel_rfl) (by simp only [vfn_size]) (vfn_one _) ?_))
    refine bodyPost_ret (results_vec rfl _ _ _ _ _ _ _ rfl (r.row (vfn (fun _ => 0))) Try.underlying23 rfl (by rw [vfn_size]; kernel_rfl)) rfl ?_; refine ⟨?_, Below.setRow hB (by omega) _⟩
    rfl
  have d2 : (e2 != 0) = false := by simp [h2]
  have z2 : (e2 == 0) = true := by simp [h2]
  clear h2
  by_cases h3 : (1073741822 : Int) ≤ n1
  case neg =>
    have d3 : decide (n1 < 1073741822) = true := decide_eq_true (by omega)
    have z3 : decide ((1073741822 : Int) ≤ n1) = false := decide_eq_false h3
    obtain rfl : bk = false := by rw [hbk, z1, z2, z3]; rfl
    clear h3 R hbk
    go_wp2_with (first | (refine wpList_load_rowG ?hw _ _ rfl _ rfl _ _ _ _ p Try.underlying23 rfl ?hi ?_; (case hw => (first | rfl | (simp [Region.wanted, yielded]; done))); (case hi => (rw [vfn_size]; kernel_rfl))) | (refine wpList_load_rowG ?hw _ _ rfl _ rfl _ _ _ _ q Try.underlying23 rfl ?hi ?_; (case hw => (first | rfl | (simp [Region.wanted, yielded]; done))); (case hi => (rw [vfn_size]; kernel_rfl))) | (go_at_call 83; with_reducible refine (N1.out _).mono ?_; rintro e w1 ⟨rfl, hb⟩; replace hB := hB.trans (hb.mono hB.size); replace p := p.below hb p.lt; replace q := q.below hb q.lt; replace r := r.below hb r.lt; clear hb) | (go_at_call 83; with_reducible refine (N2.out _).mono ?_; rintro e w2 ⟨rfl, hb⟩; replace hB := hB.trans (hb.mono hB.size); replace p := p.below hb p.lt; replace q := q.below hb q.lt; replace r := r.below hb r.lt; clear hb) | (rw [zero_vec]; refine wpList_store_row rfl _ _ _ rfl _ rfl _ rfl _ _ r (by rw [vfn_size]; kernel_rfl) (by simp only [vfn_size]) (vfn_one _) ?_))
    refine bodyPost_ret (results_vec rfl _ _ _ _ _ _ _ rfl (r.row (vfn (fun _ => 0))) Try.underlying23 rfl (by rw [vfn_size]; kernel_rfl)) rfl ?_; refine ⟨?_, Below.setRow hB (by omega) _⟩
    rfl
  have d3 : decide (n1 < 1073741822) = false := decide_eq_false (by omega)
  have z3 : decide ((1073741822 : Int) ≤ n1) = true := decide_eq_true h3
  clear h3
  by_cases h4 : n1 ≤ 1073741824
  case neg =>
    have d4 : decide (1073741824 < n1) = true := decide_eq_true (by omega)
    have z4 : decide (n1 ≤ 1073741824) = false := decide_eq_false h4
    obtain rfl : bk = false := by rw [hbk, z1, z2, z3, z4]; rfl
    clear h4 R hbk
    go_wp2_with (first | (refine wpList_load_rowG ?hw _ _ rfl _ rfl _ _ _ _ p Try.underlying23 rfl ?hi ?_; (case hw => (first | rfl | (simp [Region.wanted, yielded]; done))); (case hi => (rw [vfn_size]; kernel_rfl))) | (refine wpList_load_rowG ?hw _ _ rfl _ rfl _ _ _ _ q Try.underlying23 rfl ?hi ?_; (case hw => (first | rfl | (simp [Region.wanted, yielded]; done))); (case hi => (rw [vfn_size]; kernel_rfl))) | (go_at_call 83; with_reducible refine (N1.out _).mono ?_; rintro e w1 ⟨rfl, hb⟩; replace hB := hB.trans (hb.mono hB.size); replace p := p.below hb p.lt; replace q := q.below hb q.lt; replace r := r.below hb r.lt; clear hb) | (go_at_call 83; with_reducible refine (N2.out _).mono ?_; rintro e w2 ⟨rfl, hb⟩; replace hB := hB.trans (hb.mono hB.size); replace p := p.below hb p.lt; replace q := q.below hb q.lt; replace r := r.below hb r.lt; clear hb) | (rw [zero_vec]; refine wpList_store_row rfl _ _ _ rfl _ rfl _ rfl _ _ r (by rw [vfn_size]; kernel_rfl) (by simp only [vfn_size]) (vfn_one _) ?_))
    refine bodyPost_ret (results_vec rfl _ _ _ _ _ _ _ rfl (r.row (vfn (fun _ => 0))) Try.underlying23 rfl (by rw [vfn_size]; kernel_rfl)) rfl ?_; refine ⟨?_, Below.setRow hB (by omega) _⟩
    rfl
  have d4 : decide (1073741824 < n1) = false := decide_eq_false (by omega)
  have z4 : decide (n1 ≤ 1073741824) = true := decide_eq_true h4
  clear h4
  by_cases h5 : n2 ≤ 1073741824
  case neg =>
    have d5 : decide (1073741824 < n2) = true := decide_eq_true (by omega)
    have z5 : decide (n2 ≤ 1073741824) = false := decide_eq_false h5
    obtain rfl : bk = false := by rw [hbk, z1, z2, z3, z4, z5]; rfl
    clear h5 R hbk
    go_wp2_with (first | (refine wpList_load_rowG ?hw _ _ rfl _ rfl _ _ _ _ p Try.underlying23 rfl ?hi ?_; (case hw => (first | rfl | (simp [Region.wanted, yielded]; done))); (case hi => (rw [vfn_size]; kernel_rfl))) | (refine wpList_load_rowG ?hw _ _ rfl _ rfl _ _ _ _ q Try.underlying23 rfl ?hi ?_; (case hw => (first | rfl | (simp [Region.wanted, yielded]; done))); (case hi => (rw [vfn_size]; kernel_rfl))) | (go_at_call 83; with_reducible refine (N1.out _).mono ?_; rintro e w1 ⟨rfl, hb⟩; replace hB := hB.trans (hb.mono hB.size); replace p := p.below hb p.lt; replace q := q.below hb q.lt; replace r := r.below hb r.lt; clear hb) | (go_at_call 83; with_reducible refine (N2.out _).mono ?_; rintro e w2 ⟨rfl, hb⟩; replace hB := hB.trans (hb.mono hB.size); replace p := p.below hb p.lt; replace q := q.below hb q.lt; replace r := r.below hb r.lt; clear hb) | (rw [zero_vec]; refine wpList_store_row rfl _ _ _ rfl _ rfl _ rfl _ _ r (by rw [vfn_size]; kernel_rfl) (by simp only [vfn_size]) (vfn_one _) ?_))
    refine bodyPost_ret (results_vec rfl _ _ _ _ _ _ _ rfl (r.row (vfn (fun _ => 0))) Try.underlying23 rfl (by rw [vfn_size]; kernel_rfl)) rfl ?_; refine ⟨?_, Below.setRow hB (by omega) _⟩
    rfl
  have d5 : decide (1073741824 < n2) = false := decide_eq_false (by omega)
  have z5 : decide (n2 ≤ 1073741824) = true := decide_eq_true h5
  clear h5
  obtain rfl : bk = true := by rw [hbk, z1, z2, z3, z4, z5]; rfl
  clear hbk
  go_upto_region 6 with (first | (refine wpList_load_rowG ?hw _ _ rfl _ rfl _ _ _ _ p Try.underlying23 rfl ?hi ?_; (case hw => (first | rfl | (simp [Region.wanted, yielded]; done))); (case hi => (rw [vfn_size]; kernel_rfl))) | (refine wpList_load_rowG ?hw _ _ rfl _ rfl _ _ _ _ q Try.underlying23 rfl ?hi ?_; (case hw => (first | rfl | (simp [Region.wanted, yielded]; done))); (case hi => (rw [vfn_size]; kernel_rfl))) | (go_at_call 83; with_reducible refine (N1.out _).mono ?_; rintro e w1 ⟨rfl, hb⟩; replace hB := hB.trans (hb.mono hB.size); replace p := p.below hb p.lt; replace q := q.below hb q.lt; replace r := r.below hb r.lt; clear hb) | (go_at_call 83; with_reducible refine (N2.out _).mono ?_; rintro e w2 ⟨rfl, hb⟩; replace hB := hB.trans (hb.mono hB.size); replace p := p.below hb p.lt; replace q := q.below hb q.lt; replace r := r.below hb r.lt; clear hb) | (go_at_call 84; with_reducible refine (D.out _).mono ?_; rintro e w3 ⟨rfl, hb⟩; replace hB := hB.trans (hb.mono hB.size); replace p := p.below hb p.lt; replace q := q.below hb q.lt; replace r := r.below hb r.lt; clear hb))
  go_upto_region 7 with (fail)
  rw [zero_vec]
  have m := blk.new w3 (vfn fun _ => 0) 23
  have mb1 : w.heap.size + 1 + 1 < w3.heap.size := r.lt
  replace p := p.alloc (.cells (vfn fun _ => 0) 23)
  replace q := q.alloc (.cells (vfn fun _ => 0) 23)
  replace r := r.alloc (.cells (vfn fun _ => 0) 23)
  replace hB := hB.alloc hB.size (.cells (vfn fun _ => 0) 23)
  generalize w3.alloc (.cells (vfn fun _ => 0) 23) = w4 at *
  generalize w3.heap.size = mb at *
  go_wp2_with (fail)
  go_loopg [13] 3 (fun g_ iv wr => ∃ k : Nat, g_ + k = 3 ∧ iv = .int .i64 k ∧ blk wr w.heap.size (vfn f) 23 ∧ blk wr (w.heap.size + 1) (vfn g) 23 ∧ blk wr (w.heap.size + 1 + 1) (vfn fun _ => 0) 23 ∧ blk wr mb (vfn (pre3 X k)) 23 ∧ Below w.heap.size w wr)
  case atStart => exact ⟨0, rfl, rfl, p, q, r, by rw [show vfn (pre3 X 0) = vfn (fun _ => 0) from vfn_congr fun i _ => by simp [pre3]]; exact m, hB⟩
  case round =>
    clear p q r m hB
    obtain ⟨k, hk, rfl, p, q, r, m, hB⟩ := hrel
    by_cases hkn : k < 3
    · have hdk : decide ((k : Int) < 3) = true := decide_eq_true (by omega)
      have hdk' : decide (k < 3) = true := decide_eq_true (by omega)
      have hw3 : IntKind.i64.wrap ((k : Int) + 1) = ((k + 1 : Nat) : Int) := by rw [IntKind.wrap_i64]; omega
      have hk3 : (k : Int) < 3 := by omega
      have ck : wr.cell? ⟨w.heap.size, k, none⟩ = some (.int .i64 (f k)) := p.cellIs (vfn_get _ hkn)
      have hW := HW.out
      have hX := HX.out k
      have RK := Lib.hid (R.out k hkn)
      generalize ratioV W (f k) 1073741824 = Y at *
      generalize ratioE W (f k) 1073741824 = YE at *
      go_wp2_with (go_at_call 85; refine (RK.out _).mono ?_; rintro e w5 ⟨rfl, hb⟩; replace hB := hB.trans (hb.mono hB.size); replace p := p.below hb p.lt; replace q := q.below hb q.lt; replace r := r.below hb r.lt; replace m := m.below hb m.lt; clear hb; have cg : w5.cell? ⟨w.heap.size + 1, k, none⟩ = some (.int .i64 (g k)) := q.cellIs (vfn_get _ hkn); have fz : w5.frozen? ⟨mb, k, none⟩ = false := m.free _; have cz : w5.cell? ⟨mb, k, none⟩ = some (.int .i64 (pre3 X k k)) := m.cellIs (vfn_get _ hkn))
      go_roundg (3 - (k + 1))
      case rel =>
        refine ⟨k + 1, by omega, rfl, p.setOther (by simp; omega) _, q.setOther (by simp; omega) _, r.setOther (by simp; omega) _, m.set' (vfn_set hkn ?_ ?_), hB.setCell (by simp; omega) _⟩
        · simp [pre3]
        · intro j hj hne; simp only [pre3]; split <;> split <;> first | rfl | omega
      case measure => omega
    · obtain rfl : k = 3 := by omega
      have e3 : vfn (pre3 X 3) = vfn X := vfn_congr fun i hi => by simp [pre3, hi]
      rw [e3] at m
      go_wp2_with (first | (refine wpList_load_rowG ?hw _ _ rfl _ rfl _ _ _ _ m Try.underlying23 rfl ?hi ?_; (case hw => (first | rfl | (simp [Region.wanted, yielded]; done))); (case hi => (rw [vfn_size]; kernel_rfl))) | (refine wpList_store_row rfl _ _ _ rfl _ rfl _ rfl _ _ r (by rw [vfn_size]; kernel_rfl) (by simp only [vfn_size]) (vfn_one _) ?_))
      refine bodyPost_ret (results_vec rfl _ _ _ _ _ _ _ rfl (r.row (vfn X)) Try.underlying23 rfl (by rw [vfn_size]; kernel_rfl)) rfl ?_; refine ⟨?_, Below.setRow hB (by omega) _⟩
      rfl
end Go.Proofs.Ythkklhfnmodpnaa
