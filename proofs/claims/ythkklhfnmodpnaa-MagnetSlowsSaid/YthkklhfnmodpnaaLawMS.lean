/-
  MagnetSlows returns true: the torque of the dipole that unloads a momentum does not point along it.
-/
import Derived.Test.YthkklhfnmodpnaaLawMA
set_option linter.unusedSimpArgs false
set_option linter.unusedVariables false
namespace Go.Proofs.Ythkklhfnmodpnaa
open Go.RowKit PM Dt
/-- What is left of the product: no part along the momentum but the errors. -/
theorem slow_id {h0 h1 h2 b0 b1 b2 d0 d1 d2 t0 t1 t2 c0 c1 c2 e0 e1 e2 s0 s1 s2 : Int}
    (T0 : 1073741824 * t0 = (d1 * b2 - d2 * b1) + e0) (T1 : 1073741824 * t1 = (d2 * b0 - d0 * b2) + e1) (T2 : 1073741824 * t2 = (d0 * b1 - d1 * b0) + e2)
    (C0 : 1073741824 * c0 = (h1 * b2 - h2 * b1) + s0) (C1 : 1073741824 * c1 = (h2 * b0 - h0 * b2) + s1) (C2 : 1073741824 * c2 = (h0 * b1 - h1 * b0) + s2) :
    1073741824 * (t0 * h0 + t1 * h1 + t2 * h2) + 1073741824 * (d0 * c0 + d1 * c1 + d2 * c2) = (d0 * s0 + d1 * s1 + d2 * s2) + (e0 * h0 + e1 * h1 + e2 * h2) := by
  have r : 1073741824 * (t0 * h0 + t1 * h1 + t2 * h2) = (1073741824 * t0) * h0 + (1073741824 * t1) * h1 + (1073741824 * t2) * h2 := by
    rw [Int.mul_add, Int.mul_add, Int.mul_assoc, Int.mul_assoc, Int.mul_assoc]
  have q : 1073741824 * (d0 * c0 + d1 * c1 + d2 * c2) = d0 * (1073741824 * c0) + d1 * (1073741824 * c1) + d2 * (1073741824 * c2) := by
    rw [Int.mul_add, Int.mul_add, Int.mul_left_comm, Int.mul_left_comm 1073741824 d1, Int.mul_left_comm 1073741824 d2]
  rw [r, q, T0, T1, T2, C0, C1, C2]
  clear r q T0 T1 T2 C0 C1 C2
  grind
/-- The signs of what is halved stay. -/
theorem halved_signs : ∀ (k : Nat) (f : Nat → Int), ∃ P : Int, 0 < P ∧ ∀ i, P * halved k f i ≤ f i ∧ f i < P * halved k f i + P
  | 0, f => ⟨1, by omega, fun i => by show 1 * f i ≤ f i ∧ f i < 1 * f i + 1; omega⟩
  | k + 1, f => by
    by_cases hs : smallB f 65536 = true
    · rw [halved_small hs]
      exact ⟨1, by omega, fun i => by omega⟩
    · rw [halved_step (by simpa using hs)]
      obtain ⟨P, hP, h⟩ := halved_signs k (hv f)
      refine ⟨2 * P, by omega, fun i => ?_⟩
      have hi := h i
      rw [Int.mul_assoc]
      generalize P * halved k (hv f) i = Z at *
      unfold hv at hi
      omega
theorem halved_is_small : ∀ (k : Nat) (f : Nat → Int), bnd k f → smallB (halved k f) 65536 = true
  | 0, f, h => bnd_small h
  | k + 1, f, h => by
    by_cases hs : smallB f 65536 = true
    · rw [halved_small hs]; exact hs
    · rw [halved_step (by simpa using hs)]; exact halved_is_small k (hv f) (bnd_step h)
theorem same_sign {P d c : Int} (hP : 0 < P) (h1 : P * d ≤ c) (h2 : c < P * d + P) : 0 ≤ d * c := by
  by_cases hd : 0 ≤ d
  · exact Int.mul_nonneg hd (Int.le_trans (Int.mul_nonneg (Int.le_of_lt hP) hd) h1)
  · have h3 : P * d + P ≤ 0 := by
      have : P * (d + 1) ≤ 0 := Int.mul_nonpos_of_nonneg_of_nonpos (Int.le_of_lt hP) (by omega)
      rw [Int.mul_add, Int.mul_one] at this
      exact this
    exact Int.mul_nonneg_of_nonpos_of_nonpos (by omega) (by omega)
theorem err_bd16 {e f : Int} (h1 : -65536 ≤ f) (h2 : f ≤ 65536) (h3 : -536870912 ≤ e) (h4 : e ≤ 536870912) : -35184372088832 ≤ f * e ∧ f * e ≤ 35184372088832 :=
  bmul (P := 65536) (R := 536870912) h1 h2 h3 h4
theorem err_bd21 {e f : Int} (h1 : -536870912 ≤ e) (h2 : e ≤ 536870912) (h3 : -2097152 ≤ f) (h4 : f ≤ 2097152) : -1125899906842624 ≤ e * f ∧ e * f ≤ 1125899906842624 :=
  bmul (P := 536870912) (R := 2097152) h1 h2 h3 h4
theorem prod53 {a b : Int} (h1 : -2097152 ≤ a) (h2 : a ≤ 2097152) (h3 : -4294967296 ≤ b) (h4 : b ≤ 4294967296) : -9007199254740992 ≤ a * b ∧ a * b ≤ 9007199254740992 :=
  bmul (P := 2097152) (R := 4294967296) h1 h2 h3 h4
theorem prod40 {a b : Int} (h1 : -524288 ≤ a) (h2 : a ≤ 524288) (h3 : -2097152 ≤ b) (h4 : b ≤ 2097152) : -1099511627776 ≤ a * b ∧ a * b ≤ 1099511627776 :=
  bmul (P := 524288) (R := 2097152) h1 h2 h3 h4
theorem slows (f g : Nat → Int) (h : unlOk f g = true) :
    torqOk (halved 24 (vcrossF f g)) g = true ∧ (∀ i, i < 3 → -2097152 ≤ f i ∧ f i ≤ 2097152) ∧
    crossX (halved 24 (vcrossF f g)) g 0 * f 0 + crossX (halved 24 (vcrossF f g)) g 1 * f 1 + crossX (halved 24 (vcrossF f g)) g 2 * f 2 ≤ 134217728 := by
  have h' := h
  unfold unlOk at h'
  rw [Bool.and_eq_true] at h'
  obtain ⟨hf, hg⟩ := h'
  have bf : ∀ i, i < 3 → -2097152 ≤ f i ∧ f i ≤ 2097152 := fun i hi => (sb_iff _ _).1 ((smallB_iff f _).1 hf i hi)
  have bg : ∀ i, i < 3 → -4294967296 ≤ g i ∧ g i ≤ 4294967296 := fun i hi => (sb_iff _ _).1 ((smallB_iff g _).1 hg i hi)
  have vf : okV f = true := (okV_iff f).2 fun i hi => (vb_iff _).2 (by have := bf i hi; omega)
  have vg : okV g = true := (okV_iff g).2 fun i hi => (vb_iff _).2 (by have := bg i hi; omega)
  have f0 := bf 0 (by omega)
  have f1 := bf 1 (by omega)
  have f2 := bf 2 (by omega)
  have g0 := bg 0 (by omega)
  have g1 := bg 1 (by omega)
  have g2 := bg 2 (by omega)
  have x0 : crossX f g 0 = rnd (f 1 * g 2 - f 2 * g 1) := two_eq _ _ _ _
  have x1 : crossX f g 1 = rnd (f 2 * g 0 - f 0 * g 2) := two_eq _ _ _ _
  have x2 : crossX f g 2 = rnd (f 0 * g 1 - f 1 * g 0) := two_eq _ _ _ _
  have vc : okV (crossX f g) = true := (okV_iff _).2 fun i hi => (vb_iff _).2 (by
    have p12 := prod53 f1.1 f1.2 g2.1 g2.2
    have p21 := prod53 f2.1 f2.2 g1.1 g1.2
    have p20 := prod53 f2.1 f2.2 g0.1 g0.2
    have p02 := prod53 f0.1 f0.2 g2.1 g2.2
    have p01 := prod53 f0.1 f0.2 g1.1 g1.2
    have p10 := prod53 f1.1 f1.2 g0.1 g0.2
    have : i = 0 ∨ i = 1 ∨ i = 2 := by omega
    rcases this with rfl | rfl | rfl
    · rw [x0]; generalize f 1 * g 2 = A at *; generalize f 2 * g 1 = B at *; clear x0 x1 x2; unfold rnd; omega
    · rw [x1]; generalize f 2 * g 0 = A at *; generalize f 0 * g 2 = B at *; clear x0 x1 x2; unfold rnd; omega
    · rw [x2]; generalize f 0 * g 1 = A at *; generalize f 1 * g 0 = B at *; clear x0 x1 x2; unfold rnd; omega)
  have ec : vcrossF f g = crossX f g := by unfold vcrossF; rw [vf, vg, vc]; rfl
  have hb := bnd_ok (cross_ok f g)
  have sd := halved_is_small 24 _ hb
  obtain ⟨P, hP, hs⟩ := halved_signs 24 (vcrossF f g)
  rw [ec] at sd hs ⊢
  generalize halved 24 (crossX f g) = d at *
  have hk : torqOk d g = true := by unfold torqOk; rw [sd, hg]; rfl
  refine ⟨hk, bf, ?_⟩
  have bd : ∀ i, i < 3 → -65536 ≤ d i ∧ d i ≤ 65536 := fun i hi => (sb_iff _ _).1 ((smallB_iff d _).1 sd i hi)
  have k0 := same_sign hP (hs 0).1 (hs 0).2
  have k1 := same_sign hP (hs 1).1 (hs 1).2
  have k2 := same_sign hP (hs 2).1 (hs 2).2
  have y0 : crossX d g 0 = rnd (d 1 * g 2 - d 2 * g 1) := two_eq _ _ _ _
  have y1 : crossX d g 1 = rnd (d 2 * g 0 - d 0 * g 2) := two_eq _ _ _ _
  have y2 : crossX d g 2 = rnd (d 0 * g 1 - d 1 * g 0) := two_eq _ _ _ _
  obtain ⟨e0, E0, l0, u0⟩ := rnd_err (d 1 * g 2 - d 2 * g 1)
  obtain ⟨e1, E1, l1, u1⟩ := rnd_err (d 2 * g 0 - d 0 * g 2)
  obtain ⟨e2, E2, l2, u2⟩ := rnd_err (d 0 * g 1 - d 1 * g 0)
  obtain ⟨s0, S0, m0, n0⟩ := rnd_err (f 1 * g 2 - f 2 * g 1)
  obtain ⟨s1, S1, m1, n1⟩ := rnd_err (f 2 * g 0 - f 0 * g 2)
  obtain ⟨s2, S2, m2, n2⟩ := rnd_err (f 0 * g 1 - f 1 * g 0)
  rw [← y0] at E0
  rw [← y1] at E1
  rw [← y2] at E2
  rw [← x0] at S0
  rw [← x1] at S1
  rw [← x2] at S2
  have id := slow_id E0 E1 E2 S0 S1 S2
  have q0 := err_bd16 (bd 0 (by omega)).1 (bd 0 (by omega)).2 m0 n0
  have q1 := err_bd16 (bd 1 (by omega)).1 (bd 1 (by omega)).2 m1 n1
  have q2 := err_bd16 (bd 2 (by omega)).1 (bd 2 (by omega)).2 m2 n2
  have r0 := err_bd21 l0 u0 f0.1 f0.2
  have r1 := err_bd21 l1 u1 f1.1 f1.2
  have r2 := err_bd21 l2 u2 f2.1 f2.2
  clear E0 E1 E2 S0 S1 S2 x0 x1 x2 y0 y1 y2 hs
  generalize crossX d g 0 * f 0 = t0 at *
  generalize crossX d g 1 * f 1 = t1 at *
  generalize crossX d g 2 * f 2 = t2 at *
  generalize d 0 * crossX f g 0 = a0 at *
  generalize d 1 * crossX f g 1 = a1 at *
  generalize d 2 * crossX f g 2 = a2 at *
  generalize d 0 * s0 = b0 at *
  generalize d 1 * s1 = b1 at *
  generalize d 2 * s2 = b2 at *
  generalize e0 * f 0 = c0 at *
  generalize e1 * f 1 = c1 at *
  generalize e2 * f 2 = c2 at *
  omega
set_option maxRecDepth 100000 in
set_option maxHeartbeats 4000000 in
theorem slows_any (f g : Nat → Int) (w : World) : Calls Try.prog 11 #[.agg (vfn f), .agg (vfn g)] w fun e w' => e = .returned (.bool true) ∧ Below w.heap.size w w' := by
  have A1 := Lib.hid (fun w => unl_any f g w)
  obtain ⟨bk, hk⟩ : ∃ b, unlOk f g = b := ⟨_, rfl⟩
  cases bk
  · have e1 : unlF f g = fun _ => 0 := by unfold unlF; rw [hk]; rfl
    have e2 : unlE f g = 2 := by unfold unlE; rw [hk]; rfl
    rw [e1, e2] at A1
    clear e1 e2 hk
    have hq0 : ∀ w, (Op.equalIn 10000 23 (.agg (vfn fun _ => 0)) (.agg #[.int .i64 0, .int .i64 0, .int .i64 0])).run Try.prog w = .ok true w := fun w => by rw [zero_vec]; exact vec_eq_self _ w
    go_enter Try.func11, Try.ntmps11
    go_upto_region 1 with (fail)
    have p : blk ((w.alloc (.cells (vfn f) 23)).alloc (.cells (vfn g) 23)) w.heap.size (vfn f) 23 := (blk.new _ _ _).alloc _
    have q : blk ((w.alloc (.cells (vfn f) 23)).alloc (.cells (vfn g) 23)) (w.heap.size + 1) (vfn g) 23 := blk.new' (by simp)
    have hB : Below w.heap.size w ((w.alloc (.cells (vfn f) 23)).alloc (.cells (vfn g) 23)) := by go_grown
    generalize (w.alloc (.cells (vfn f) 23)).alloc (.cells (vfn g) 23) = w0 at *
    go_upto_region 2 with (first
      | (refine wpList_load_rowG ?hw _ _ rfl _ rfl _ _ _ _ p Try.underlying23 rfl ?hi ?_; (case hw => (first | rfl | (simp [Region.wanted, yielded]; done))); (case hi => (rw [vfn_size]; kernel_rfl)))
      | (refine wpList_load_rowG ?hw _ _ rfl _ rfl _ _ _ _ q Try.underlying23 rfl ?hi ?_; (case hw => (first | rfl | (simp [Region.wanted, yielded]; done))); (case hi => (rw [vfn_size]; kernel_rfl)))
      | (go_at_call 40; with_reducible refine (A1.out _).mono ?_; rintro e w1 ⟨rfl, hb⟩; replace hB := hB.trans (hb.mono hB.size); replace p := p.below hb p.lt; replace q := q.below hb q.lt; clear hb)
      | (rw [zero_vec]; refine wpList_store_row rfl _ _ _ rfl _ rfl _ rfl _ _ (blk.new _ _ _) (by rw [vfn_size]; kernel_rfl) (by simp only [vfn_size]) (vfn_one _) ?_))
    have r1 := (blk.new w1 (vfn fun _ => 0) 23).row (vfn (fun _ => 0))
    replace hB := Below.setRow (hB.alloc hB.size (.cells (vfn fun _ => 0) 23)) (g := w1.heap.size) hB.size (vfn (fun _ => 0))
    have hne : ∀ x, x < w1.heap.size → x ≠ w1.heap.size := fun x hx => Nat.ne_of_lt hx
    replace p := (p.alloc (.cells (vfn fun _ => 0) 23)).rowOther (hne _ p.lt) (vfn (fun _ => 0))
    replace q := (q.alloc (.cells (vfn fun _ => 0) 23)).rowOther (hne _ q.lt) (vfn (fun _ => 0))
    clear hne
    generalize (w1.alloc (.cells (vfn fun _ => 0) 23)).setRow w1.heap.size (vfn (fun _ => 0)) = w1x at *
    generalize w1.heap.size = r1_b at *
    go_wp2_with (first | (refine wpList_load_rowG ?hw _ _ rfl _ rfl _ _ _ _ r1 Try.underlying23 rfl ?hi ?_; (case hw => (first | rfl | (simp [Region.wanted, yielded]; done))); (case hi => (rw [vfn_size]; kernel_rfl))) | (go_at_call 39; refine (awakeM_any _).mono ?_; rintro e wx ⟨rfl, hb⟩; replace hB := hB.trans (hb.mono hB.size); clear hb))
    go_ret
    exact ⟨rfl, hB⟩
  · have e1 : unlF f g = halved 24 (vcrossF f g) := by unfold unlF; rw [hk]; rfl
    have e2 : unlE f g = 0 := by unfold unlE; rw [hk]; rfl
    obtain ⟨tk, bf, le⟩ := slows f g hk
    rw [e1, e2] at A1
    generalize halved 24 (vcrossF f g) = d at *
    obtain ⟨a1, a2, _, _, sm, _⟩ := across d g tk
    have A2 := Lib.hid (fun w => torq_any d g w)
    rw [a1, a2] at A2
    generalize crossX d g = t at *
    have bt : ∀ i, i < 3 → -524288 ≤ t i ∧ t i ≤ 524288 := fun i hi => (sb_iff _ _).1 ((smallB_iff t _).1 sm i hi)
    have W2 := Lib.hid (fun w => lwithin_any (t 0) 1048576 w (by omega) (by omega))
    have W3 := Lib.hid (fun w => lwithin_any (t 1) 1048576 w (by omega) (by omega))
    have W4 := Lib.hid (fun w => lwithin_any (t 2) 1048576 w (by omega) (by omega))
    rw [(sb_iff _ _).2 (show -1048576 ≤ t 0 ∧ t 0 ≤ 1048576 by have := bt 0 (by omega); omega)] at W2
    rw [(sb_iff _ _).2 (show -1048576 ≤ t 1 ∧ t 1 ≤ 1048576 by have := bt 1 (by omega); omega)] at W3
    rw [(sb_iff _ _).2 (show -1048576 ≤ t 2 ∧ t 2 ≤ 1048576 by have := bt 2 (by omega); omega)] at W4
    have p0 := prod40 (bt 0 (by omega)).1 (bt 0 (by omega)).2 (bf 0 (by omega)).1 (bf 0 (by omega)).2
    have p1 := prod40 (bt 1 (by omega)).1 (bt 1 (by omega)).2 (bf 1 (by omega)).1 (bf 1 (by omega)).2
    have p2 := prod40 (bt 2 (by omega)).1 (bt 2 (by omega)).2 (bf 2 (by omega)).1 (bf 2 (by omega)).2
    obtain ⟨z0, hz0⟩ : ∃ z, t 0 * f 0 = z := ⟨_, rfl⟩
    obtain ⟨z1, hz1⟩ : ∃ z, t 1 * f 1 = z := ⟨_, rfl⟩
    obtain ⟨z2, hz2⟩ : ∃ z, t 2 * f 2 = z := ⟨_, rfl⟩
    rw [hz0] at p0 le
    rw [hz1] at p1 le
    rw [hz2] at p2 le
    have m0 : IntKind.i64.wrap (t 0 * f 0) = z0 := by rw [hz0, IntKind.wrap_i64]; omega
    have m1 : IntKind.i64.wrap (t 1 * f 1) = z1 := by rw [hz1, IntKind.wrap_i64]; omega
    have m2 : IntKind.i64.wrap (t 2 * f 2) = z2 := by rw [hz2, IntKind.wrap_i64]; omega
    have m3 : IntKind.i64.wrap (z0 + z1) = z0 + z1 := by rw [IntKind.wrap_i64]; omega
    have m4 : IntKind.i64.wrap (z0 + z1 + z2) = z0 + z1 + z2 := by rw [IntKind.wrap_i64]; omega
    have dl : decide (z0 + z1 + z2 ≤ 134217728) = true := decide_eq_true le
    clear e1 e2 hk tk bf le a1 a2 sm bt p0 p1 p2 hz0 hz1 hz2
    go_enter Try.func11, Try.ntmps11
    go_upto_region 1 with (fail)
    have p : blk ((w.alloc (.cells (vfn f) 23)).alloc (.cells (vfn g) 23)) w.heap.size (vfn f) 23 := (blk.new _ _ _).alloc _
    have q : blk ((w.alloc (.cells (vfn f) 23)).alloc (.cells (vfn g) 23)) (w.heap.size + 1) (vfn g) 23 := blk.new' (by simp)
    have hB : Below w.heap.size w ((w.alloc (.cells (vfn f) 23)).alloc (.cells (vfn g) 23)) := by go_grown
    generalize (w.alloc (.cells (vfn f) 23)).alloc (.cells (vfn g) 23) = w0 at *
    go_upto_region 2 with (first
      | (refine wpList_load_rowG ?hw _ _ rfl _ rfl _ _ _ _ p Try.underlying23 rfl ?hi ?_; (case hw => (first | rfl | (simp [Region.wanted, yielded]; done))); (case hi => (rw [vfn_size]; kernel_rfl)))
      | (refine wpList_load_rowG ?hw _ _ rfl _ rfl _ _ _ _ q Try.underlying23 rfl ?hi ?_; (case hw => (first | rfl | (simp [Region.wanted, yielded]; done))); (case hi => (rw [vfn_size]; kernel_rfl)))
      | (go_at_call 40; with_reducible refine (A1.out _).mono ?_; rintro e w1 ⟨rfl, hb⟩; replace hB := hB.trans (hb.mono hB.size); replace p := p.below hb p.lt; replace q := q.below hb q.lt; clear hb)
      | (rw [zero_vec]; refine wpList_store_row rfl _ _ _ rfl _ rfl _ rfl _ _ (blk.new _ _ _) (by rw [vfn_size]; kernel_rfl) (by simp only [vfn_size]) (vfn_one _) ?_))
    have r1 := (blk.new w1 (vfn fun _ => 0) 23).row (vfn d)
    replace hB := Below.setRow (hB.alloc hB.size (.cells (vfn fun _ => 0) 23)) (g := w1.heap.size) hB.size (vfn d)
    have hne : ∀ x, x < w1.heap.size → x ≠ w1.heap.size := fun x hx => Nat.ne_of_lt hx
    replace p := (p.alloc (.cells (vfn fun _ => 0) 23)).rowOther (hne _ p.lt) (vfn d)
    replace q := (q.alloc (.cells (vfn fun _ => 0) 23)).rowOther (hne _ q.lt) (vfn d)
    clear hne
    generalize (w1.alloc (.cells (vfn fun _ => 0) 23)).setRow w1.heap.size (vfn d) = w1x at *
    generalize w1.heap.size = r1_b at *
    go_upto_region 5 with (first
      | (refine wpList_load_rowG ?hw _ _ rfl _ rfl _ _ _ _ r1 Try.underlying23 rfl ?hi ?_; (case hw => (first | rfl | (simp [Region.wanted, yielded]; done))); (case hi => (rw [vfn_size]; kernel_rfl)))
      | (refine wpList_load_rowG ?hw _ _ rfl _ rfl _ _ _ _ q Try.underlying23 rfl ?hi ?_; (case hw => (first | rfl | (simp [Region.wanted, yielded]; done))); (case hi => (rw [vfn_size]; kernel_rfl)))
      | (go_at_call 37; with_reducible refine (A2.out _).mono ?_; rintro e w2 ⟨rfl, hb⟩; replace hB := hB.trans (hb.mono hB.size); replace p := p.below hb p.lt; replace q := q.below hb q.lt; replace r1 := r1.below hb r1.lt; clear hb)
      | (rw [zero_vec]; refine wpList_store_row rfl _ _ _ rfl _ rfl _ rfl _ _ (blk.new _ _ _) (by rw [vfn_size]; kernel_rfl) (by simp only [vfn_size]) (vfn_one _) ?_))
    have r2 := (blk.new w2 (vfn fun _ => 0) 23).row (vfn t)
    replace hB := Below.setRow (hB.alloc hB.size (.cells (vfn fun _ => 0) 23)) (g := w2.heap.size) hB.size (vfn t)
    have hne : ∀ x, x < w2.heap.size → x ≠ w2.heap.size := fun x hx => Nat.ne_of_lt hx
    replace p := (p.alloc (.cells (vfn fun _ => 0) 23)).rowOther (hne _ p.lt) (vfn t)
    replace q := (q.alloc (.cells (vfn fun _ => 0) 23)).rowOther (hne _ q.lt) (vfn t)
    replace r1 := (r1.alloc (.cells (vfn fun _ => 0) 23)).rowOther (hne _ r1.lt) (vfn t)
    clear hne
    generalize (w2.alloc (.cells (vfn fun _ => 0) 23)).setRow w2.heap.size (vfn t) = w2x at *
    generalize w2.heap.size = r2_b at *
    have c0 : w2x.cell? ⟨r2_b, 0, none⟩ = some (.int .i64 (t 0)) := r2.cellIs (vfn_get _ (by omega))
    have c1 : w2x.cell? ⟨r2_b, 1, none⟩ = some (.int .i64 (t 1)) := r2.cellIs (vfn_get _ (by omega))
    have c2 : w2x.cell? ⟨r2_b, 2, none⟩ = some (.int .i64 (t 2)) := r2.cellIs (vfn_get _ (by omega))
    have f0 : w2x.cell? ⟨w.heap.size, 0, none⟩ = some (.int .i64 (f 0)) := p.cellIs (vfn_get _ (by omega))
    have f1 : w2x.cell? ⟨w.heap.size, 1, none⟩ = some (.int .i64 (f 1)) := p.cellIs (vfn_get _ (by omega))
    have f2 : w2x.cell? ⟨w.heap.size, 2, none⟩ = some (.int .i64 (f 2)) := p.cellIs (vfn_get _ (by omega))
    go_wp2_with (first | (go_at_call 45; with_reducible refine (W2.out _).mono ?_; rintro e wq ⟨rfl, rfl⟩) | (go_at_call 45; with_reducible refine (W3.out _).mono ?_; rintro e wq ⟨rfl, rfl⟩) | (go_at_call 45; with_reducible refine (W4.out _).mono ?_; rintro e wq ⟨rfl, rfl⟩) | (go_at_call 39; refine (awakeM_any _).mono ?_; rintro e wx ⟨rfl, hb⟩; replace hB := hB.trans (hb.mono hB.size); clear hb))
    go_ret
    exact ⟨rfl, hB⟩
end Go.Proofs.Ythkklhfnmodpnaa
