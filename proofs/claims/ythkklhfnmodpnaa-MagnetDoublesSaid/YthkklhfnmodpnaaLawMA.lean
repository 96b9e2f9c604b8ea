/-
  MagnetAcross returns true: a torque is orthogonal to the field.
-/
import Derived.Test.YthkklhfnmodpnaaLawM
import Derived.Test.YthkklhfnmodpnaaCrossM
set_option linter.unusedSimpArgs false
set_option linter.unusedVariables false
namespace Go.Proofs.Ythkklhfnmodpnaa
open Go.RowKit PM Dt
theorem err_bd32 {e f : Int} (h1 : -536870912 ≤ e) (h2 : e ≤ 536870912) (h3 : -4294967296 ≤ f) (h4 : f ≤ 4294967296) : -2305843009213693952 ≤ e * f ∧ e * f ≤ 2305843009213693952 :=
  bmul (P := 536870912) (R := 4294967296) h1 h2 h3 h4
theorem prod48 {a b : Int} (h1 : -65536 ≤ a) (h2 : a ≤ 65536) (h3 : -4294967296 ≤ b) (h4 : b ≤ 4294967296) : -281474976710656 ≤ a * b ∧ a * b ≤ 281474976710656 :=
  bmul (P := 65536) (R := 4294967296) h1 h2 h3 h4
theorem across (f g : Nat → Int) (h : torqOk f g = true) :
    torqF f g = crossX f g ∧ torqE f g = 0 ∧ okV (crossX f g) = true ∧ okV g = true ∧ smallB (crossX f g) 524288 = true ∧ sb 8 (rnd (d3 (crossX f g) g)) = true := by
  have h' := h
  unfold torqOk at h'
  rw [Bool.and_eq_true] at h'
  obtain ⟨hf, hg⟩ := h'
  have bf : ∀ i, i < 3 → -65536 ≤ f i ∧ f i ≤ 65536 := fun i hi => (sb_iff _ _).1 ((smallB_iff f _).1 hf i hi)
  have bg : ∀ i, i < 3 → -4294967296 ≤ g i ∧ g i ≤ 4294967296 := fun i hi => (sb_iff _ _).1 ((smallB_iff g _).1 hg i hi)
  have vf : okV f = true := (okV_iff f).2 fun i hi => (vb_iff _).2 (by have := bf i hi; omega)
  have vg : okV g = true := (okV_iff g).2 fun i hi => (vb_iff _).2 (by have := bg i hi; omega)
  have f0 := bf 0 (by omega)
  have f1 := bf 1 (by omega)
  have f2 := bf 2 (by omega)
  have g0 := bg 0 (by omega)
  have g1 := bg 1 (by omega)
  have g2 := bg 2 (by omega)
  have x0 : crossX f g 0 = rnd (f 1 * g 2 - f 2 * g 1) := two_eq _ _ _ _
  have x1 : crossX f g 1 = rnd (f 2 * g 0 - f 0 * g 2) := two_eq _ _ _ _
  have x2 : crossX f g 2 = rnd (f 0 * g 1 - f 1 * g 0) := two_eq _ _ _ _
  have p12 := prod48 f1.1 f1.2 g2.1 g2.2
  have p21 := prod48 f2.1 f2.2 g1.1 g1.2
  have p20 := prod48 f2.1 f2.2 g0.1 g0.2
  have p02 := prod48 f0.1 f0.2 g2.1 g2.2
  have p01 := prod48 f0.1 f0.2 g1.1 g1.2
  have p10 := prod48 f1.1 f1.2 g0.1 g0.2
  have sm : smallB (crossX f g) 524288 = true := (smallB_iff _ _).2 fun i hi => (sb_iff _ _).2 (by
    have : i = 0 ∨ i = 1 ∨ i = 2 := by omega
    rcases this with rfl | rfl | rfl
    · rw [x0]; generalize f 1 * g 2 = A at *; generalize f 2 * g 1 = B at *; clear x0 x1 x2; unfold rnd; omega
    · rw [x1]; generalize f 2 * g 0 = A at *; generalize f 0 * g 2 = B at *; clear x0 x1 x2; unfold rnd; omega
    · rw [x2]; generalize f 0 * g 1 = A at *; generalize f 1 * g 0 = B at *; clear x0 x1 x2; unfold rnd; omega)
  have vc : okV (crossX f g) = true := (okV_iff _).2 fun i hi => (vb_iff _).2 (by have := (sb_iff _ _).1 ((smallB_iff _ _).1 sm i hi); omega)
  obtain ⟨e0, h0, l0, u0⟩ := rnd_err (f 1 * g 2 - f 2 * g 1)
  obtain ⟨e1, h1, l1, u1⟩ := rnd_err (f 2 * g 0 - f 0 * g 2)
  obtain ⟨e2, h2, l2, u2⟩ := rnd_err (f 0 * g 1 - f 1 * g 0)
  rw [← x0] at h0
  rw [← x1] at h1
  rw [← x2] at h2
  obtain ⟨_, o2⟩ := ortho h0 h1 h2
  have q4 := err_bd32 l0 u0 g0.1 g0.2
  have q5 := err_bd32 l1 u1 g1.1 g1.2
  have q6 := err_bd32 l2 u2 g2.1 g2.2
  have D2 : d3 (crossX f g) g = crossX f g 0 * g 0 + (crossX f g 1 * g 1 + (crossX f g 2 * g 2 + 0)) := by unfold d3; rw [dotS_cons, dotS_cons, dotS_cons, dotS_nil]
  rw [← D2] at o2
  clear D2 h0 h1 h2
  have k2 : sb 8 (rnd (d3 (crossX f g) g)) = true := (sb_iff _ _).2 (by
    generalize d3 (crossX f g) g = Z at *
    generalize e0 * g 0 = z0 at *
    generalize e1 * g 1 = z1 at *
    generalize e2 * g 2 = z2 at *
    clear p12 p21 p20 p02 p01 p10 x0 x1 x2 sm
    unfold rnd; omega)
  refine ⟨?_, ?_, vc, vg, sm, k2⟩
  · unfold torqF vcrossF; rw [h, vf, vg, vc]; rfl
  · unfold torqE vcrossE; rw [h, vf, vg, vc]; rfl
set_option maxRecDepth 100000 in
set_option maxHeartbeats 1000000 in
theorem lwithin_any (a m : Int) (w : World) (h0 : 0 ≤ m) (hm : m ≤ 4398046511104) : Calls Try.prog 45 #[.int .i64 a, .int .i64 m] w fun e w' => e = .returned (.bool (sb m a)) ∧ w = w' := by
  have hwm : wrap64 (-m) = -m := by unfold wrap64; omega
  clear h0 hm
  unfold sb
  go_enter Try.func45, Try.ntmps45
  by_cases h1 : -m ≤ a
  · have d1 : decide (-m ≤ a) = true := decide_eq_true h1
    clear h1
    go_wp2_with (fail)
    go_ret
    exact ⟨by first | rfl | (rw [d1]; rfl), rfl⟩
  · have d1 : decide (-m ≤ a) = false := decide_eq_false h1
    clear h1
    go_wp2_with (fail)
    go_ret
    exact ⟨by first | rfl | (rw [d1]; rfl), rfl⟩
set_option maxRecDepth 100000 in
set_option maxHeartbeats 4000000 in
theorem across_any (f g : Nat → Int) (w : World) : Calls Try.prog 10 #[.agg (vfn f), .agg (vfn g)] w fun e w' => e = .returned (.bool true) ∧ Below w.heap.size w w' := by
  have A1 := Lib.hid (fun w => torq_any f g w)
  obtain ⟨bk, hk⟩ : ∃ b, torqOk f g = b := ⟨_, rfl⟩
  cases bk
  · have e1 : torqF f g = fun _ => 0 := by unfold torqF; rw [hk]; rfl
    have e2 : torqE f g = 2 := by unfold torqE; rw [hk]; rfl
    rw [e1, e2] at A1
    clear e1 e2 hk
    have hq0 : ∀ w, (Op.equalIn 10000 23 (.agg (vfn fun _ => 0)) (.agg #[.int .i64 0, .int .i64 0, .int .i64 0])).run Try.prog w = .ok true w := fun w => by rw [zero_vec]; exact vec_eq_self _ w
    go_enter Try.func10, Try.ntmps10
    go_upto_region 1 with (fail)
    have p : blk ((w.alloc (.cells (vfn f) 23)).alloc (.cells (vfn g) 23)) w.heap.size (vfn f) 23 := (blk.new _ _ _).alloc _
    have q : blk ((w.alloc (.cells (vfn f) 23)).alloc (.cells (vfn g) 23)) (w.heap.size + 1) (vfn g) 23 := blk.new' (by simp)
    have hB : Below w.heap.size w ((w.alloc (.cells (vfn f) 23)).alloc (.cells (vfn g) 23)) := by go_grown
    generalize (w.alloc (.cells (vfn f) 23)).alloc (.cells (vfn g) 23) = w0 at *
    go_upto_region 2 with (first
      | (refine wpList_load_rowG ?hw _ _ rfl _ rfl _ _ _ _ p Try.underlying23 rfl ?hi ?_; (case hw => (first | rfl | (simp [Region.wanted, yielded]; done))); (case hi => (rw [vfn_size]; kernel_rfl)))
      | (refine wpList_load_rowG ?hw _ _ rfl _ rfl _ _ _ _ q Try.underlying23 rfl ?hi ?_; (case hw => (first | rfl | (simp [Region.wanted, yielded]; done))); (case hi => (rw [vfn_size]; kernel_rfl)))
      | (go_at_call 37; with_reducible refine (A1.out _).mono ?_; rintro e w1 ⟨rfl, hb⟩; replace hB := hB.trans (hb.mono hB.size); replace p := p.below hb p.lt; replace q := q.below hb q.lt; clear hb)
      | (rw [zero_vec]; refine wpList_store_row rfl _ _ _ rfl _ rfl _ rfl _ _ (blk.new _ _ _) (by rw [vfn_size]; kernel_rfl) (by simp only [vfn_size]) (vfn_one _) ?_))
    have r1 := (blk.new w1 (vfn fun _ => 0) 23).row (vfn (fun _ => 0))
    replace hB := Below.setRow (hB.alloc hB.size (.cells (vfn fun _ => 0) 23)) (g := w1.heap.size) hB.size (vfn (fun _ => 0))
    have hne : ∀ x, x < w1.heap.size → x ≠ w1.heap.size := fun x hx => Nat.ne_of_lt hx
    replace p := (p.alloc (.cells (vfn fun _ => 0) 23)).rowOther (hne _ p.lt) (vfn (fun _ => 0))
    replace q := (q.alloc (.cells (vfn fun _ => 0) 23)).rowOther (hne _ q.lt) (vfn (fun _ => 0))
    clear hne
    generalize (w1.alloc (.cells (vfn fun _ => 0) 23)).setRow w1.heap.size (vfn (fun _ => 0)) = w1x at *
    generalize w1.heap.size = r1_b at *
    go_wp2_with (first | (refine wpList_load_rowG ?hw _ _ rfl _ rfl _ _ _ _ r1 Try.underlying23 rfl ?hi ?_; (case hw => (first | rfl | (simp [Region.wanted, yielded]; done))); (case hi => (rw [vfn_size]; kernel_rfl))) | (go_at_call 39; refine (awakeM_any _).mono ?_; rintro e wx ⟨rfl, hb⟩; replace hB := hB.trans (hb.mono hB.size); clear hb))
    go_ret
    exact ⟨rfl, hB⟩
  · obtain ⟨e1, e2, vc, vg, sm, k2⟩ := across f g hk
    rw [e1, e2] at A1
    have D := Lib.hid (fun w => vdot_any (crossX f g) g w)
    have W1 := Lib.hid (fun w => lwithin_any (rnd (d3 (crossX f g) g)) 8 w (by omega) (by omega))
    have W2 := Lib.hid (fun w => lwithin_any (crossX f g 0) 524288 w (by omega) (by omega))
    have W3 := Lib.hid (fun w => lwithin_any (crossX f g 1) 524288 w (by omega) (by omega))
    have W4 := Lib.hid (fun w => lwithin_any (crossX f g 2) 524288 w (by omega) (by omega))
    rw [show vdotV (crossX f g) g = rnd (d3 (crossX f g) g) by unfold vdotV; rw [vc, vg]; rfl, show vdotE (crossX f g) g = 0 by unfold vdotE; rw [vc, vg]; rfl] at D
    rw [k2] at W1
    rw [(smallB_iff _ _).1 sm 0 (by omega)] at W2
    rw [(smallB_iff _ _).1 sm 1 (by omega)] at W3
    rw [(smallB_iff _ _).1 sm 2 (by omega)] at W4
    clear e1 e2 vc vg sm k2 hk
    generalize rnd (d3 (crossX f g) g) = x at *
    generalize crossX f g = c at *
    go_enter Try.func10, Try.ntmps10
    go_upto_region 1 with (fail)
    have p : blk ((w.alloc (.cells (vfn f) 23)).alloc (.cells (vfn g) 23)) w.heap.size (vfn f) 23 := (blk.new _ _ _).alloc _
    have q : blk ((w.alloc (.cells (vfn f) 23)).alloc (.cells (vfn g) 23)) (w.heap.size + 1) (vfn g) 23 := blk.new' (by simp)
    have hB : Below w.heap.size w ((w.alloc (.cells (vfn f) 23)).alloc (.cells (vfn g) 23)) := by go_grown
    generalize (w.alloc (.cells (vfn f) 23)).alloc (.cells (vfn g) 23) = w0 at *
    go_upto_region 2 with (first
      | (refine wpList_load_rowG ?hw _ _ rfl _ rfl _ _ _ _ p Try.underlying23 rfl ?hi ?_; (case hw => (first | rfl | (simp [Region.wanted, yielded]; done))); (case hi => (rw [vfn_size]; kernel_rfl)))
      | (refine wpList_load_rowG ?hw _ _ rfl _ rfl _ _ _ _ q Try.underlying23 rfl ?hi ?_; (case hw => (first | rfl | (simp [Region.wanted, yielded]; done))); (case hi => (rw [vfn_size]; kernel_rfl)))
      | (go_at_call 37; with_reducible refine (A1.out _).mono ?_; rintro e w1 ⟨rfl, hb⟩; replace hB := hB.trans (hb.mono hB.size); replace p := p.below hb p.lt; replace q := q.below hb q.lt; clear hb)
      | (rw [zero_vec]; refine wpList_store_row rfl _ _ _ rfl _ rfl _ rfl _ _ (blk.new _ _ _) (by rw [vfn_size]; kernel_rfl) (by simp only [vfn_size]) (vfn_one _) ?_))
    have r1 := (blk.new w1 (vfn fun _ => 0) 23).row (vfn c)
    replace hB := Below.setRow (hB.alloc hB.size (.cells (vfn fun _ => 0) 23)) (g := w1.heap.size) hB.size (vfn c)
    have hne : ∀ x, x < w1.heap.size → x ≠ w1.heap.size := fun x hx => Nat.ne_of_lt hx
    replace p := (p.alloc (.cells (vfn fun _ => 0) 23)).rowOther (hne _ p.lt) (vfn c)
    replace q := (q.alloc (.cells (vfn fun _ => 0) 23)).rowOther (hne _ q.lt) (vfn c)
    clear hne
    generalize (w1.alloc (.cells (vfn fun _ => 0) 23)).setRow w1.heap.size (vfn c) = w1x at *
    generalize w1.heap.size = r1_b at *
    have c0 : ∀ w', Below w'.heap.size w' w' := fun w' => Below.refl _ _
    clear c0
    go_upto_region 5 with (first | (refine wpList_load_rowG ?hw _ _ rfl _ rfl _ _ _ _ r1 Try.underlying23 rfl ?hi ?_; (case hw => (first | rfl | (simp [Region.wanted, yielded]; done))); (case hi => (rw [vfn_size]; kernel_rfl))) | (refine wpList_load_rowG ?hw _ _ rfl _ rfl _ _ _ _ q Try.underlying23 rfl ?hi ?_; (case hw => (first | rfl | (simp [Region.wanted, yielded]; done))); (case hi => (rw [vfn_size]; kernel_rfl))) | (go_at_call 44; with_reducible refine (D.out _).mono ?_; rintro e w2 ⟨rfl, hb⟩; replace hB := hB.trans (hb.mono hB.size); replace p := p.below hb p.lt; replace q := q.below hb q.lt; replace r1 := r1.below hb r1.lt; clear hb))
    have c0 : w2.cell? ⟨r1_b, 0, none⟩ = some (.int .i64 (c 0)) := r1.cellIs (vfn_get _ (by omega))
    have c1 : w2.cell? ⟨r1_b, 1, none⟩ = some (.int .i64 (c 1)) := r1.cellIs (vfn_get _ (by omega))
    have c2 : w2.cell? ⟨r1_b, 2, none⟩ = some (.int .i64 (c 2)) := r1.cellIs (vfn_get _ (by omega))
    go_wp2_with (first | (go_at_call 45; with_reducible refine (W1.out _).mono ?_; rintro e wq ⟨rfl, rfl⟩) | (go_at_call 45; with_reducible refine (W2.out _).mono ?_; rintro e wq ⟨rfl, rfl⟩) | (go_at_call 45; with_reducible refine (W3.out _).mono ?_; rintro e wq ⟨rfl, rfl⟩) | (go_at_call 45; with_reducible refine (W4.out _).mono ?_; rintro e wq ⟨rfl, rfl⟩) | (go_at_call 39; refine (awakeM_any _).mono ?_; rintro e wx ⟨rfl, hb⟩; replace hB := hB.trans (hb.mono hB.size); clear hb))
    go_ret
    exact ⟨rfl, hB⟩
end Go.Proofs.Ythkklhfnmodpnaa
