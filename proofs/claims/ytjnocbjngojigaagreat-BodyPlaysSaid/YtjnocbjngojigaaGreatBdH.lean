/-
  Shortened vectors: Limit of the specification. The bodies of the specification: New.
-/
import Derived.Test.YtjnocbjngojigaaGreatVLimP
import Derived.Test.YtjnocbjngojigaaGreatBdD
set_option linter.unusedSimpArgs false
set_option linter.unusedVariables false
namespace Go.Proofs.YtjnocbjngojigaaGreat
open Go.RowKit PM Dt
def psq (f : Nat → Int) : Nat → Nat
  | 0 => 0
  | k + 1 => psq f k + (f k).natAbs * (f k).natAbs
theorem psq3 (f : Nat → Int) : psq f 3 = sq3 f := by
  unfold sq3
  rw [sqs_cons, sqs_cons, sqs_cons, sqs_nil]
  simp only [psq]
  omega
set_option maxRecDepth 100000 in
set_option maxHeartbeats 1000000 in
theorem rsquares_any (f : Nat → Int) (w : World) (hI : ∀ i, i < 3 → I64 (f i)) : Calls Tryz.prog 131 #[.agg (vfn f)] w fun e w' => e = .returned (.agg (bigC (sq3 f))) ∧ Below w.heap.size w w' := by
  have HI := Lib.hid hI
  clear hI
  go_enter Tryz.func131, Tryz.ntmps131
  go_upto_region 2 with (fail)
  simp only [zero_eq_big]
  have p : blk (((w.alloc (.cells (vfn f) 27)).alloc (.cells (bigC 0) 123)).alloc (.cells (bigC 0) 123)) w.heap.size (vfn f) 27 := ((blk.new _ _ _).alloc _).alloc _
  have r : blk (((w.alloc (.cells (vfn f) 27)).alloc (.cells (bigC 0) 123)).alloc (.cells (bigC 0) 123)) (w.heap.size + 1) (bigC 0) 123 := (blk.new' (by simp)).alloc _
  have s : blk (((w.alloc (.cells (vfn f) 27)).alloc (.cells (bigC 0) 123)).alloc (.cells (bigC 0) 123)) (w.heap.size + 2) (bigC 0) 123 := blk.new' (by simp)
  have hB : Below w.heap.size w (((w.alloc (.cells (vfn f) 27)).alloc (.cells (bigC 0) 123)).alloc (.cells (bigC 0) 123)) := by go_grown
  generalize ((w.alloc (.cells (vfn f) 27)).alloc (.cells (bigC 0) 123)).alloc (.cells (bigC 0) 123) = w0 at *
  go_wp2_with (fail)
  go_loopg [4] 3 (fun g_ iv wr => ∃ k : Nat, g_ + k = 3 ∧ iv = .int .i64 k ∧ blk wr w.heap.size (vfn f) 27 ∧ blk wr (w.heap.size + 1) (bigC 0) 123 ∧ blk wr (w.heap.size + 2) (bigC (psq f k)) 123 ∧ Below w.heap.size w wr)
  case atStart => exact ⟨0, rfl, rfl, p, r, s, hB⟩
  case round =>
    clear p r s hB
    obtain ⟨k, hk, rfl, p, r, s, hB⟩ := hrel
    by_cases hkn : k < 3
    · have hdk : decide ((k : Int) < 3) = true := decide_eq_true (by omega)
      have hdk' : decide (k < 3) = true := decide_eq_true hkn
      have hk3 : (k : Int) < 3 := by omega
      have hw3 : IntKind.i64.wrap ((k : Int) + 1) = ((k + 1 : Nat) : Int) := by rw [IntKind.wrap_i64]; omega
      have hi := HI.out k hkn
      have AB := Lib.hid (fun w => abs_any (f k) w hi.1 hi.2)
      obtain ⟨A, hA⟩ : ∃ A, (f k).natAbs = A := ⟨_, rfl⟩
      have hs : psq f (k + 1) = psq f k + A * A := by rw [← hA]; rfl
      rw [hA] at AB
      have HA8 := Lib.hid (show A < 65536 ^ 8 by rw [← hA]; have := hi.1; have := hi.2; omega)
      have HS := Lib.hid hs
      clear hs hA hi
      go_upto_region 5 with (fail)
      refine wp_region_X 11 (by kernel_rfl) (by kernel_rfl) ?_
      replace p := p.drew
      replace r := r.drew
      replace s := s.drew
      replace hB : Below w.heap.size w wr.drew := hB.drew
      generalize wr.drew = wo at *
      refine wpX_take 0 (.agg (bigC (psq f k))) rfl rfl (by kernel_rfl) (fun w1 h1 => detR_row _ _ rfl _ rfl _ _ _ (s.below h1 s.lt) Tryz.underlying123 rfl (by rw [bigC_size]; kernel_rfl) rfl) ?_
      simp only [Act.put, sIT, sCZ, sCS]
      refine wpX_take 1 (.int .i64 k) rfl rfl (by kernel_rfl) (fun w1 h1 => by go_simp; exact ⟨rfl, Below.refl _ _⟩) ?_
      simp only [Act.put, sIT, sCZ, sCS]
      refine wpX_take 2 (.pointer (some ⟨w.heap.size, k, none⟩)) rfl rfl (by kernel_rfl) (fun w1 h1 => by go_simp; first | exact ⟨rfl, Below.refl _ _⟩ | (rw [if_pos hk3]; exact ⟨rfl, Below.refl _ _⟩)) ?_
      simp only [Act.put, sIT, sCZ, sCS]
      refine wpX_take 3 (.int .i64 (f k)) rfl rfl (by kernel_rfl) (fun w1 h1 => by have hc : w1.cell? ⟨w.heap.size, k, none⟩ = some (.int .i64 (f k)) := (p.below h1 p.lt).cellIs (vfn_get _ hkn); go_simp; exact ⟨rfl, Below.refl _ _⟩) ?_
      simp only [Act.put, sIT, sCZ, sCS]
      refine wpX_take 4 (.agg (bigC A)) rfl rfl (by kernel_rfl) (fun w1 h1 => ?_) ?_
      · go_simp
        refine (AB.out _).mono ?_
        rintro e w2 ⟨rfl, h2⟩
        exact ⟨rfl, h2⟩
      simp only [Act.put, sIT, sCZ, sCS]
      refine wpX_take 5 (.int .i64 k) rfl rfl (by kernel_rfl) (fun w1 h1 => by go_simp; exact ⟨rfl, Below.refl _ _⟩) ?_
      simp only [Act.put, sIT, sCZ, sCS]
      refine wpX_take 6 (.pointer (some ⟨w.heap.size, k, none⟩)) rfl rfl (by kernel_rfl) (fun w1 h1 => by go_simp; first | exact ⟨rfl, Below.refl _ _⟩ | (rw [if_pos hk3]; exact ⟨rfl, Below.refl _ _⟩)) ?_
      simp only [Act.put, sIT, sCZ, sCS]
      refine wpX_take 7 (.int .i64 (f k)) rfl rfl (by kernel_rfl) (fun w1 h1 => by have hc : w1.cell? ⟨w.heap.size, k, none⟩ = some (.int .i64 (f k)) := (p.below h1 p.lt).cellIs (vfn_get _ hkn); go_simp; exact ⟨rfl, Below.refl _ _⟩) ?_
      simp only [Act.put, sIT, sCZ, sCS]
      refine wpX_take 8 (.agg (bigC A)) rfl rfl (by kernel_rfl) (fun w1 h1 => ?_) ?_
      · go_simp
        refine (AB.out _).mono ?_
        rintro e w2 ⟨rfl, h2⟩
        exact ⟨rfl, h2⟩
      simp only [Act.put, sIT, sCZ, sCS]
      refine wpX_take 9 (.agg (bigC (A * A))) rfl rfl (by kernel_rfl) (fun w1 h1 => ?_) ?_
      · go_simp
        refine (times_any A A _ HA8.out HA8.out).mono ?_
        rintro e w2 ⟨rfl, h2⟩
        exact ⟨rfl, h2⟩
      simp only [Act.put, sIT, sCZ, sCS]
      refine wpX_take 10 (.agg (bigC (psq f k + A * A))) rfl rfl (by kernel_rfl) (fun w1 h1 => ?_) ?_
      · go_simp
        refine (add_any _ _ _).mono ?_
        rintro e w2 ⟨rfl, h2⟩
        exact ⟨rfl, h2⟩
      simp only [Act.put, sIT, sCZ, sCS]
      refine wpX_tail (by kernel_rfl) (fun wt ht => ?_)
      simp only [List.drop_succ_cons, List.drop_zero]
      replace hB := hB.trans (ht.mono (by have := p.lt; omega))
      replace p := p.below ht p.lt
      replace r := r.below ht r.lt
      replace s := s.below ht s.lt
      clear ht
      rw [← HS.out]
      go_wp2_with ((refine wpList_store_row rfl _ _ _ rfl _ rfl _ rfl _ _ s (by rw [bigC_size]; kernel_rfl) (by rw [bigC_size, bigC_size]) (fnC_one _) ?_))
      go_roundg (3 - (k + 1))
      case rel => exact ⟨k + 1, by omega, rfl, p.rowOther (by omega) _, r.rowOther (by omega) _, s.row _, Below.setRow hB (by omega) _⟩
      case measure => omega
    · obtain rfl : k = 3 := by omega
      rw [psq3] at s
      go_wp2_with (first | (refine wpList_load_row rfl _ _ rfl _ rfl _ _ _ _ s Tryz.underlying123 rfl (by rw [bigC_size]; kernel_rfl) ?_) | (refine wpList_store_row rfl _ _ _ rfl _ rfl _ rfl _ _ r (by rw [bigC_size]; kernel_rfl) (by rw [bigC_size, bigC_size]) (fnC_one _) ?_))
      refine bodyPost_ret (results_cell_row rfl _ _ _ _ _ _ _ rfl (r.row _) Tryz.underlying123 rfl (by rw [bigC_size]; kernel_rfl)) rfl ⟨rfl, Below.setRow hB (by omega) _⟩
set_option maxRecDepth 100000 in
set_option maxHeartbeats 1000000 in
theorem rabove_any (f : Nat → Int) (m : Int) (w : World) (hk : okV f = true) (hm : I64 m) : Calls Tryz.prog 89 #[.agg (vfn f), .int .i64 m] w fun e w' => e = .returned (.bool (decide (m.natAbs * m.natAbs < sq3 f))) ∧ Below w.heap.size w w' := by
  have SQ := Lib.hid (fun w => rsquares_any f w (okV_I hk))
  have AB := Lib.hid (fun w => abs_any m w hm.1 hm.2)
  obtain ⟨A, hA⟩ : ∃ A, m.natAbs = A := ⟨_, rfl⟩
  rw [hA] at AB ⊢
  have hA8 : A < 65536 ^ 8 := by rw [← hA]; have := hm.1; have := hm.2; omega
  have hP : A * A < 65536 ^ 17 := Nat.lt_of_le_of_lt (Nat.mul_le_mul (show A ≤ 9223372036854775808 by rw [← hA]; have := hm.1; have := hm.2; omega) (show A ≤ 9223372036854775808 by rw [← hA]; have := hm.1; have := hm.2; omega)) (by decide)
  have hS : sq3 f < 65536 ^ 17 := Nat.lt_of_le_of_lt (ok_sq hk) (by decide)
  have LS := Lib.hid (fun w => less_any (A * A) (sq3 f) w hP hS)
  have HA8 := Lib.hid hA8
  clear hA8 hP hS hA hk hm
  generalize sq3 f = S at *
  generalize decide (A * A < S) = R at *
  go_enter Tryz.func89, Tryz.ntmps89
  go_upto_region 1 with (fail)
  have p : blk (w.alloc (.cells (vfn f) 27)) w.heap.size (vfn f) 27 := blk.new _ _ _
  have hB : Below w.heap.size w (w.alloc (.cells (vfn f) 27)) := by go_grown
  generalize w.alloc (.cells (vfn f) 27) = w0 at *
  refine wp_region_Y 99 9 rfl (by kernel_rfl) ?_
  replace p := p.drew
  replace hB : Below w.heap.size w w0.drew := hB.drew
  generalize w0.drew = wo at *
  refine wpY_takeB 0 (.int .i64 m) rfl rfl (by kernel_rfl) (fun w1 => by go_simp; exact ⟨rfl, Below.refl _ _⟩) ?_
  simp only [Act.put, sIT, sCZ, sCS]
  refine wpY_takeA 1 (.agg (bigC A)) rfl rfl (by kernel_rfl) (by kernel_rfl) (fun w1 h1 => ?_) ?_
  · go_simp
    refine (AB.out _).mono ?_
    rintro e w2 ⟨rfl, h2⟩
    exact ⟨rfl, h2⟩
  simp only [Act.put, sIT, sCZ, sCS]
  refine wpY_takeB 2 (.int .i64 m) rfl rfl (by kernel_rfl) (fun w1 => by go_simp; exact ⟨rfl, Below.refl _ _⟩) ?_
  simp only [Act.put, sIT, sCZ, sCS]
  refine wpY_takeA 3 (.agg (bigC A)) rfl rfl (by kernel_rfl) (by kernel_rfl) (fun w1 h1 => ?_) ?_
  · go_simp
    refine (AB.out _).mono ?_
    rintro e w2 ⟨rfl, h2⟩
    exact ⟨rfl, h2⟩
  simp only [Act.put, sIT, sCZ, sCS]
  refine wpY_takeA 4 (.agg (bigC (A * A))) rfl rfl (by kernel_rfl) (by kernel_rfl) (fun w1 h1 => ?_) ?_
  · go_simp
    refine (times_any A A _ HA8.out HA8.out).mono ?_
    rintro e w2 ⟨rfl, h2⟩
    exact ⟨rfl, h2⟩
  simp only [Act.put, sIT, sCZ, sCS]
  refine wpY_takeA 5 (.agg (vfn f)) rfl rfl (by kernel_rfl) (by kernel_rfl) (fun w1 h1 => detR_row _ _ rfl _ rfl _ _ _ (p.below h1 p.lt) Tryz.underlying27 rfl (by rw [vfn_size]; kernel_rfl) rfl) ?_
  simp only [Act.put, sIT, sCZ, sCS]
  refine wpY_takeA 6 (.agg (bigC S)) rfl rfl (by kernel_rfl) (by kernel_rfl) (fun w1 h1 => ?_) ?_
  · go_simp
    refine (SQ.out _).mono ?_
    rintro e w2 ⟨rfl, h2⟩
    exact ⟨rfl, h2⟩
  simp only [Act.put, sIT, sCZ, sCS]
  refine wpY_takeA 7 (.bool R) rfl rfl (by kernel_rfl) (by kernel_rfl) (fun w1 h1 => ?_) ?_
  · go_simp
    refine (LS.out _).mono ?_
    rintro e w2 ⟨rfl, h2⟩
    exact ⟨rfl, h2⟩
  simp only [Act.put, sIT, sCZ, sCS]
  refine wpY_takeB 8 (.bool R) rfl rfl (by kernel_rfl) (fun w1 => by go_simp; exact ⟨rfl, Below.refl _ _⟩) ?_
  simp only [Act.put, sIT, sCZ, sCS]
  refine wpY_end (by kernel_rfl) (fun w3 h3 => ?_)
  replace hB := hB.trans (h3.mono (by have := p.lt; omega))
  go_wp2_with (fail)
  go_ret
  exact ⟨rfl, hB⟩
end Go.Proofs.YtjnocbjngojigaaGreat
namespace Go.Proofs.YtjnocbjngojigaaGreat
open Go.RowKit PM Dt
theorem rsc_of (h : Nat → Int) (f : Int) : #[Value.int .i64 (h 0), .int .i64 (h 1), .int .i64 (h 2), .int .i64 (h 3), .int .i64 f] = rsc (h, f) := rfl
theorem rbc_of (X : BSt) : #[Value.int .i64 (X.Q 0), .int .i64 (X.Q 1), .int .i64 (X.Q 2), .int .i64 (X.Q 3), .int .i64 (X.T 0), .int .i64 (X.T 1), .int .i64 (X.T 2), .int .i64 (X.h 0), .int .i64 (X.h 1), .int .i64 (X.h 2), .int .i64 (X.h 3), .int .i64 X.f] = rbc X := rfl
theorem allB_abs (T : Nat → Int) : (okV T && !decide ((1048576 : Int).natAbs * (1048576 : Int).natAbs < sq3 T)) = allB T := by
  have e : ((sq3 T : Nat) : Int) = sqV T := by
    unfold sq3 sqV
    simp only [sqs_cons, sqs_nil]
    simp
    have := Int.natAbs_mul_self (a := T 0); have := Int.natAbs_mul_self (a := T 1); have := Int.natAbs_mul_self (a := T 2)
    omega
  rw [show (1048576 : Int).natAbs = 1048576 from rfl]
  by_cases h : sqV T ≤ 1099511627776
  · have hs : smallB T 1048576 = true := (smallB_iff _ _).2 fun i hi => (sb_iff _ _).2 (vv_comp (v := T) (by decide) (show vv T ≤ 1048576 * 1048576 from h) hi)
    have ho : okV T = true := (okV_iff _).2 fun i hi => (vb_iff _).2 (by have := (sb_iff _ _).1 ((smallB_iff _ _).1 hs i hi); omega)
    unfold allB
    rw [hs, ho, decide_eq_true h, decide_eq_false (by omega)]
    rfl
  · unfold allB
    rw [decide_eq_false h, decide_eq_true (show 1048576 * 1048576 < sq3 T by omega)]
    simp
set_option maxRecDepth 100000 in
set_option maxHeartbeats 6000000 in
theorem rwnew_no (h : Nat → Int) (f : Int) (w : World) (hn : newB h f = false) : Calls Tryz.prog 69 #[.agg (qfn h), .int .i64 f] w fun e w' => e = .returned (.tuple #[.agg (rsc (fun _ => 0, 0)), .int .i64 2]) ∧ Below w.heap.size w w' := by
  by_cases h1 : f < -1
  · have d1 : decide (f < -1) = true := decide_eq_true h1
    go_enter Tryz.func69, Tryz.ntmps69
    go_upto_region 1 with (fail)
    simp only [rsc_zero]
    have v : blk ((w.alloc (.cells (qfn h) 28)).alloc (.cells (rsc (fun _ => 0, 0)) 50)) w.heap.size (qfn h) 28 := (blk.new _ _ _).alloc _
    have r : blk ((w.alloc (.cells (qfn h) 28)).alloc (.cells (rsc (fun _ => 0, 0)) 50)) (w.heap.size + 1) (rsc (fun _ => 0, 0)) 50 := blk.new' (by simp)
    have hB : Below w.heap.size w ((w.alloc (.cells (qfn h) 28)).alloc (.cells (rsc (fun _ => 0, 0)) 50)) := by go_grown
    generalize ((w.alloc (.cells (qfn h) 28)).alloc (.cells (rsc (fun _ => 0, 0)) 50)) = w0 at *
    go_upto_region 2 with (fail)
    have lt_v := v.lt
    have lt_r := r.lt
    have hW0 : w.heap.size ≤ w0.heap.size := by simpa using hB.size
    apply wp_region_Q 3 [0, 1, 3] [] [_, (fun _ => undef), _] (fun p L w' => w0.heap.size ≤ w'.heap.size ∧ Below w.heap.size w w' ∧ blk w' w.heap.size (qfn h) 28 ∧ blk w' (w.heap.size + 1) (bif L 1 then (rsc (fun _ => 0, 0)) else (rsc (fun _ => 0, 0))) 50) _ [(0, 13), (2, 5)] [0, 1, 2]
    case hn => rfl
    case hB => kernel_rfl
    case hds => kernel_rfl
    case hA => (intro p; simp only [putsD, Act.put, sIT, sCZ, sCS, List.getD_cons_zero, List.getD_cons_succ]; exact rfl)
    case h0 => exact fun p => ⟨Nat.le_refl _, hB, v, r⟩
    case hmore => exact fun p L w1 w2 ⟨hsz, hB, v, r⟩ hm => ⟨Nat.le_trans hsz hm.size, hB.trans (hm.mono (Nat.le_trans hW0 hsz)), v.below hm v.lt, r.below hm r.lt⟩
    case hs =>
      intro more
      refine stepV 0 rfl rfl (fun _ _ _ h => h) ?_ ?_
      · intros; (try simp only [vfn, qfn]); go_simp; exact ⟨rfl, rfl⟩
      refine AllI.cons ?_ ?_
      · refine stepI_store 1 rfl (fun p => rfl) (fun p => rfl) _ _ _ rfl (fun _ => (w.heap.size + 1)) 0 (fun p => rfl) (fun p => (rsc (fun _ => 0, 0))) (fun p => congrArg Value.agg rsc_zero) (fun p => (rsc (fun _ => 0, 0))) (fun p => (rsc (fun _ => 0, 0))) 50 (fun p => over_ss _ _) (fun p => by first | (rw [rsc_size, rsc_size]; decide) | simp [rsc_size, rsc_size]) (fun p => by rw [rsc_size]; kernel_rfl) (fun p => rsc_one _) ?_ ?_
        · rintro p L w1 ⟨hsz, hB, v, r⟩ hk
          have L1 : L 1 = false := hk.1
          rw [L1] at r
          try simp only [cond_true, cond_false] at r
          exact r
        · rintro p L w1 ⟨hsz, hB, v, r⟩ hk
          have L1 : L 1 = false := hk.1
          skip
          refine ⟨(by simpa using hsz), Below.setRow hB (by first | exact Nat.le_trans hW0 hp.1 | exact ge_r | omega | (have := hB.size; simp at this ⊢; omega)) _, v.rowOther (by first | exact ne_v_r | exact Ne.symm ne_r_v | omega) _, ?_⟩
          rw [show upL L 1 1 = true from rfl]
          exact r.row _
      refine stepV 2 rfl rfl (fun _ _ _ h => h) ?_ ?_
      · intros; go_simp; exact ⟨rfl, rfl⟩
      exact AllI.nil
    case hV0 => exact fun p q => AllI.nil
    case he =>
    clear hB v r
    rintro p w0r ⟨hsz, hB, v, r⟩
    replace r : blk w0r (w.heap.size + 1) (rsc (fun _ => 0, 0)) 50 := r
    clear lt_v lt_r hsz hW0
    go_wp2_with (fail)
    refine bodyPost_ret (results_vec rfl _ _ _ _ _ _ _ rfl r Tryz.underlying50 rfl (by first | kernel_rfl | (rw [rsc_size]; kernel_rfl))) rfl ?_
    refine ⟨?_, hB⟩
    rfl
  · have d1 : decide (f < -1) = false := decide_eq_false h1
    by_cases h2 : 3 < f
    · have d2 : decide (3 < f) = true := decide_eq_true h2
      go_enter Tryz.func69, Tryz.ntmps69
      go_upto_region 1 with (fail)
      simp only [rsc_zero]
      have v : blk ((w.alloc (.cells (qfn h) 28)).alloc (.cells (rsc (fun _ => 0, 0)) 50)) w.heap.size (qfn h) 28 := (blk.new _ _ _).alloc _
      have r : blk ((w.alloc (.cells (qfn h) 28)).alloc (.cells (rsc (fun _ => 0, 0)) 50)) (w.heap.size + 1) (rsc (fun _ => 0, 0)) 50 := blk.new' (by simp)
      have hB : Below w.heap.size w ((w.alloc (.cells (qfn h) 28)).alloc (.cells (rsc (fun _ => 0, 0)) 50)) := by go_grown
      generalize ((w.alloc (.cells (qfn h) 28)).alloc (.cells (rsc (fun _ => 0, 0)) 50)) = w0 at *
      go_upto_region 2 with (fail)
      have lt_v := v.lt
      have lt_r := r.lt
      have hW0 : w.heap.size ≤ w0.heap.size := by simpa using hB.size
      apply wp_region_Q 3 [0, 1, 3] [] [_, (fun _ => undef), _] (fun p L w' => w0.heap.size ≤ w'.heap.size ∧ Below w.heap.size w w' ∧ blk w' w.heap.size (qfn h) 28 ∧ blk w' (w.heap.size + 1) (bif L 1 then (rsc (fun _ => 0, 0)) else (rsc (fun _ => 0, 0))) 50) _ [(0, 13), (2, 5)] [0, 1, 2]
      case hn => rfl
      case hB => kernel_rfl
      case hds => kernel_rfl
      case hA => (intro p; simp only [putsD, Act.put, sIT, sCZ, sCS, List.getD_cons_zero, List.getD_cons_succ]; exact rfl)
      case h0 => exact fun p => ⟨Nat.le_refl _, hB, v, r⟩
      case hmore => exact fun p L w1 w2 ⟨hsz, hB, v, r⟩ hm => ⟨Nat.le_trans hsz hm.size, hB.trans (hm.mono (Nat.le_trans hW0 hsz)), v.below hm v.lt, r.below hm r.lt⟩
      case hs =>
        intro more
        refine stepV 0 rfl rfl (fun _ _ _ h => h) ?_ ?_
        · intros; (try simp only [vfn, qfn]); go_simp; exact ⟨rfl, rfl⟩
        refine AllI.cons ?_ ?_
        · refine stepI_store 1 rfl (fun p => rfl) (fun p => rfl) _ _ _ rfl (fun _ => (w.heap.size + 1)) 0 (fun p => rfl) (fun p => (rsc (fun _ => 0, 0))) (fun p => congrArg Value.agg rsc_zero) (fun p => (rsc (fun _ => 0, 0))) (fun p => (rsc (fun _ => 0, 0))) 50 (fun p => over_ss _ _) (fun p => by first | (rw [rsc_size, rsc_size]; decide) | simp [rsc_size, rsc_size]) (fun p => by rw [rsc_size]; kernel_rfl) (fun p => rsc_one _) ?_ ?_
          · rintro p L w1 ⟨hsz, hB, v, r⟩ hk
            have L1 : L 1 = false := hk.1
            rw [L1] at r
            try simp only [cond_true, cond_false] at r
            exact r
          · rintro p L w1 ⟨hsz, hB, v, r⟩ hk
            have L1 : L 1 = false := hk.1
            skip
            refine ⟨(by simpa using hsz), Below.setRow hB (by first | exact Nat.le_trans hW0 hp.1 | exact ge_r | omega | (have := hB.size; simp at this ⊢; omega)) _, v.rowOther (by first | exact ne_v_r | exact Ne.symm ne_r_v | omega) _, ?_⟩
            rw [show upL L 1 1 = true from rfl]
            exact r.row _
        refine stepV 2 rfl rfl (fun _ _ _ h => h) ?_ ?_
        · intros; go_simp; exact ⟨rfl, rfl⟩
        exact AllI.nil
      case hV0 => exact fun p q => AllI.nil
      case he =>
      clear hB v r
      rintro p w0r ⟨hsz, hB, v, r⟩
      replace r : blk w0r (w.heap.size + 1) (rsc (fun _ => 0, 0)) 50 := r
      clear lt_v lt_r hsz hW0
      go_wp2_with (fail)
      refine bodyPost_ret (results_vec rfl _ _ _ _ _ _ _ rfl r Tryz.underlying50 rfl (by first | kernel_rfl | (rw [rsc_size]; kernel_rfl))) rfl ?_
      refine ⟨?_, hB⟩
      rfl
    · have d2 : decide (3 < f) = false := decide_eq_false h2
      have hf : isW f = true := by unfold isW; rw [decide_eq_true (show -1 ≤ f by omega), decide_eq_true (show f ≤ 3 by omega)]; rfl
      clear h1 h2
      go_enter Tryz.func69, Tryz.ntmps69
      go_upto_region 1 with (fail)
      simp only [rsc_zero]
      have v : blk ((w.alloc (.cells (qfn h) 28)).alloc (.cells (rsc (fun _ => 0, 0)) 50)) w.heap.size (qfn h) 28 := (blk.new _ _ _).alloc _
      have r : blk ((w.alloc (.cells (qfn h) 28)).alloc (.cells (rsc (fun _ => 0, 0)) 50)) (w.heap.size + 1) (rsc (fun _ => 0, 0)) 50 := blk.new' (by simp)
      have hB : Below w.heap.size w ((w.alloc (.cells (qfn h) 28)).alloc (.cells (rsc (fun _ => 0, 0)) 50)) := by go_grown
      generalize ((w.alloc (.cells (qfn h) 28)).alloc (.cells (rsc (fun _ => 0, 0)) 50)) = w0 at *
      go_wp2_with (fail)
      go_loopg [6] 4 (fun g iv wr => ∃ k : Nat, g + k = 4 ∧ iv = .int .i64 k ∧ Hid (∀ j, j < k → whB h f j = true) ∧ blk wr w.heap.size (qfn h) 28 ∧ blk wr (w.heap.size + 1) (rsc (fun _ => 0, 0)) 50 ∧ Below w.heap.size w wr)
      case atStart => exact ⟨0, rfl, rfl, fun j hj => by omega, v, r, hB⟩
      case round =>
        clear hB v r
        obtain ⟨k, hk, rfl, hall, v, r, hB⟩ := hrel
        by_cases hkn : k < 4
        · have hdk : decide ((k : Int) < 4) = true := decide_eq_true (by omega)
          have hdk' : decide (k < 4) = true := decide_eq_true (by omega)
          have hk3 : (k : Int) < 4 := by omega
          have hw3 : IntKind.i64.wrap ((k : Int) + 1) = ((k + 1 : Nat) : Int) := by rw [IntKind.wrap_i64]; omega
          have hc : wr.cell? ⟨w.heap.size, k, none⟩ = some (.int .i64 (h k)) := v.cellIs (qfn_get h hkn)
          by_cases h1 : h k < -16777216
          · have d1 : decide (h k < -16777216) = true := decide_eq_true h1
            have HV : whB h f k = false := by unfold whB; rw [decide_eq_false (show ¬ -16777216 ≤ h k by omega)]; rfl
            replace HV := Lib.hid HV
            clear h1
            go_upto_region 7 with (fail)
            have lt_v := v.lt
            have lt_r := r.lt
            have hW0 : w.heap.size ≤ wr.heap.size := by simpa using hB.size
            apply wp_region_Q 3 [0, 1, 3] [] [_, (fun _ => undef), _] (fun p L w' => wr.heap.size ≤ w'.heap.size ∧ Below w.heap.size w w' ∧ blk w' w.heap.size (qfn h) 28 ∧ blk w' (w.heap.size + 1) (bif L 1 then (rsc (fun _ => 0, 0)) else (rsc (fun _ => 0, 0))) 50) _ [(0, 39), (2, 5)] [0, 1, 2]
            case hn => rfl
            case hB => kernel_rfl
            case hds => kernel_rfl
            case hA => (intro p; simp only [putsD, Act.put, sIT, sCZ, sCS, List.getD_cons_zero, List.getD_cons_succ]; exact rfl)
            case h0 => exact fun p => ⟨Nat.le_refl _, hB, v, r⟩
            case hmore => exact fun p L w1 w2 ⟨hsz, hB, v, r⟩ hm => ⟨Nat.le_trans hsz hm.size, hB.trans (hm.mono (Nat.le_trans hW0 hsz)), v.below hm v.lt, r.below hm r.lt⟩
            case hs =>
              intro more
              refine stepV 0 rfl rfl (fun _ _ _ h => h) ?_ ?_
              · intros; (try simp only [vfn, qfn]); go_simp; exact ⟨rfl, rfl⟩
              refine AllI.cons ?_ ?_
              · refine stepI_store 1 rfl (fun p => rfl) (fun p => rfl) _ _ _ rfl (fun _ => (w.heap.size + 1)) 0 (fun p => rfl) (fun p => (rsc (fun _ => 0, 0))) (fun p => congrArg Value.agg rsc_zero) (fun p => (rsc (fun _ => 0, 0))) (fun p => (rsc (fun _ => 0, 0))) 50 (fun p => over_ss _ _) (fun p => by first | (rw [rsc_size, rsc_size]; decide) | simp [rsc_size, rsc_size]) (fun p => by rw [rsc_size]; kernel_rfl) (fun p => rsc_one _) ?_ ?_
                · rintro p L w1 ⟨hsz, hB, v, r⟩ hk
                  have L1 : L 1 = false := hk.1
                  rw [L1] at r
                  try simp only [cond_true, cond_false] at r
                  exact r
                · rintro p L w1 ⟨hsz, hB, v, r⟩ hk
                  have L1 : L 1 = false := hk.1
                  skip
                  refine ⟨(by simpa using hsz), Below.setRow hB (by first | exact Nat.le_trans hW0 hp.1 | exact ge_r | omega | (have := hB.size; simp at this ⊢; omega)) _, v.rowOther (by first | exact ne_v_r | exact Ne.symm ne_r_v | omega) _, ?_⟩
                  rw [show upL L 1 1 = true from rfl]
                  exact r.row _
              refine stepV 2 rfl rfl (fun _ _ _ h => h) ?_ ?_
              · intros; go_simp; exact ⟨rfl, rfl⟩
              exact AllI.nil
            case hV0 => exact fun p q => AllI.nil
            case he =>
            clear hB v r
            rintro p wrr ⟨hsz, hB, v, r⟩
            replace r : blk wrr (w.heap.size + 1) (rsc (fun _ => 0, 0)) 50 := r
            clear lt_v lt_r hsz hW0
            go_wp2_with (fail)
            refine bodyPost_ret (results_vec rfl _ _ _ _ _ _ _ rfl r Tryz.underlying50 rfl (by first | kernel_rfl | (rw [rsc_size]; kernel_rfl))) rfl ?_
            refine ⟨?_, hB⟩
            rfl
          · have d1 : decide (h k < -16777216) = false := decide_eq_false h1
            by_cases h2 : 16777216 < h k
            · have d2 : decide (16777216 < h k) = true := decide_eq_true h2
              have HV : whB h f k = false := by unfold whB; rw [decide_eq_false (show ¬ h k ≤ 16777216 by omega)]; simp
              replace HV := Lib.hid HV
              clear h1 h2
              go_upto_region 7 with (fail)
              have lt_v := v.lt
              have lt_r := r.lt
              have hW0 : w.heap.size ≤ wr.heap.size := by simpa using hB.size
              apply wp_region_Q 3 [0, 1, 3] [] [_, (fun _ => undef), _] (fun p L w' => wr.heap.size ≤ w'.heap.size ∧ Below w.heap.size w w' ∧ blk w' w.heap.size (qfn h) 28 ∧ blk w' (w.heap.size + 1) (bif L 1 then (rsc (fun _ => 0, 0)) else (rsc (fun _ => 0, 0))) 50) _ [(0, 39), (2, 5)] [0, 1, 2]
              case hn => rfl
              case hB => kernel_rfl
              case hds => kernel_rfl
              case hA => (intro p; simp only [putsD, Act.put, sIT, sCZ, sCS, List.getD_cons_zero, List.getD_cons_succ]; exact rfl)
              case h0 => exact fun p => ⟨Nat.le_refl _, hB, v, r⟩
              case hmore => exact fun p L w1 w2 ⟨hsz, hB, v, r⟩ hm => ⟨Nat.le_trans hsz hm.size, hB.trans (hm.mono (Nat.le_trans hW0 hsz)), v.below hm v.lt, r.below hm r.lt⟩
              case hs =>
                intro more
                refine stepV 0 rfl rfl (fun _ _ _ h => h) ?_ ?_
                · intros; (try simp only [vfn, qfn]); go_simp; exact ⟨rfl, rfl⟩
                refine AllI.cons ?_ ?_
                · refine stepI_store 1 rfl (fun p => rfl) (fun p => rfl) _ _ _ rfl (fun _ => (w.heap.size + 1)) 0 (fun p => rfl) (fun p => (rsc (fun _ => 0, 0))) (fun p => congrArg Value.agg rsc_zero) (fun p => (rsc (fun _ => 0, 0))) (fun p => (rsc (fun _ => 0, 0))) 50 (fun p => over_ss _ _) (fun p => by first | (rw [rsc_size, rsc_size]; decide) | simp [rsc_size, rsc_size]) (fun p => by rw [rsc_size]; kernel_rfl) (fun p => rsc_one _) ?_ ?_
                  · rintro p L w1 ⟨hsz, hB, v, r⟩ hk
                    have L1 : L 1 = false := hk.1
                    rw [L1] at r
                    try simp only [cond_true, cond_false] at r
                    exact r
                  · rintro p L w1 ⟨hsz, hB, v, r⟩ hk
                    have L1 : L 1 = false := hk.1
                    skip
                    refine ⟨(by simpa using hsz), Below.setRow hB (by first | exact Nat.le_trans hW0 hp.1 | exact ge_r | omega | (have := hB.size; simp at this ⊢; omega)) _, v.rowOther (by first | exact ne_v_r | exact Ne.symm ne_r_v | omega) _, ?_⟩
                    rw [show upL L 1 1 = true from rfl]
                    exact r.row _
                refine stepV 2 rfl rfl (fun _ _ _ h => h) ?_ ?_
                · intros; go_simp; exact ⟨rfl, rfl⟩
                exact AllI.nil
              case hV0 => exact fun p q => AllI.nil
              case he =>
              clear hB v r
              rintro p wrr ⟨hsz, hB, v, r⟩
              replace r : blk wrr (w.heap.size + 1) (rsc (fun _ => 0, 0)) 50 := r
              clear lt_v lt_r hsz hW0
              go_wp2_with (fail)
              refine bodyPost_ret (results_vec rfl _ _ _ _ _ _ _ rfl r Tryz.underlying50 rfl (by first | kernel_rfl | (rw [rsc_size]; kernel_rfl))) rfl ?_
              refine ⟨?_, hB⟩
              rfl
            · have d2 : decide (16777216 < h k) = false := decide_eq_false h2
              have e1 : decide (-16777216 ≤ h k) = true := decide_eq_true (by omega)
              have e2 : decide (h k ≤ 16777216) = true := decide_eq_true (by omega)
              by_cases h3 : (k : Int) = f
              · have d3 : decide ((k : Int) = f) = true := decide_eq_true h3
                by_cases h4 : h k = 0
                · have d4 : (h k != 0) = false := by simp [h4]
                  have d5 : decide (h k = 0) = true := decide_eq_true h4
                  have HV : whB h f k = true := by unfold whB; rw [e1, e2, d3, d5]; rfl
                  clear e1 e2 d3 d5
                  subst h3
                  replace HV := Lib.hid HV
                  clear h1 h2 h4
                  go_wp2_with (fail)
                  go_roundg (4 - (k + 1))
                  case rel =>
                    refine ⟨k + 1, by omega, rfl, fun j hj => ?_, v, r, hB⟩
                    by_cases e : j = k
                    · subst e; exact HV.out
                    · exact hall.out j (by omega)
                  case measure => omega
                · have d4 : (h k != 0) = true := by simp [h4]
                  have d5 : decide (h k = 0) = false := decide_eq_false h4
                  have HV : whB h f k = false := by unfold whB; rw [e1, e2, d3, d5]; rfl
                  clear e1 e2 d3 d5
                  subst h3
                  replace HV := Lib.hid HV
                  clear h1 h2 h4
                  go_upto_region 7 with (fail)
                  have lt_v := v.lt
                  have lt_r := r.lt
                  have hW0 : w.heap.size ≤ wr.heap.size := by simpa using hB.size
                  apply wp_region_Q 3 [0, 1, 3] [] [_, (fun _ => undef), _] (fun p L w' => wr.heap.size ≤ w'.heap.size ∧ Below w.heap.size w w' ∧ blk w' w.heap.size (qfn h) 28 ∧ blk w' (w.heap.size + 1) (bif L 1 then (rsc (fun _ => 0, 0)) else (rsc (fun _ => 0, 0))) 50) _ [(0, 39), (2, 5)] [0, 1, 2]
                  case hn => rfl
                  case hB => kernel_rfl
                  case hds => kernel_rfl
                  case hA => (intro p; simp only [putsD, Act.put, sIT, sCZ, sCS, List.getD_cons_zero, List.getD_cons_succ]; exact rfl)
                  case h0 => exact fun p => ⟨Nat.le_refl _, hB, v, r⟩
                  case hmore => exact fun p L w1 w2 ⟨hsz, hB, v, r⟩ hm => ⟨Nat.le_trans hsz hm.size, hB.trans (hm.mono (Nat.le_trans hW0 hsz)), v.below hm v.lt, r.below hm r.lt⟩
                  case hs =>
                    intro more
                    refine stepV 0 rfl rfl (fun _ _ _ h => h) ?_ ?_
                    · intros; (try simp only [vfn, qfn]); go_simp; exact ⟨rfl, rfl⟩
                    refine AllI.cons ?_ ?_
                    · refine stepI_store 1 rfl (fun p => rfl) (fun p => rfl) _ _ _ rfl (fun _ => (w.heap.size + 1)) 0 (fun p => rfl) (fun p => (rsc (fun _ => 0, 0))) (fun p => congrArg Value.agg rsc_zero) (fun p => (rsc (fun _ => 0, 0))) (fun p => (rsc (fun _ => 0, 0))) 50 (fun p => over_ss _ _) (fun p => by first | (rw [rsc_size, rsc_size]; decide) | simp [rsc_size, rsc_size]) (fun p => by rw [rsc_size]; kernel_rfl) (fun p => rsc_one _) ?_ ?_
                      · rintro p L w1 ⟨hsz, hB, v, r⟩ hk
                        have L1 : L 1 = false := hk.1
                        rw [L1] at r
                        try simp only [cond_true, cond_false] at r
                        exact r
                      · rintro p L w1 ⟨hsz, hB, v, r⟩ hk
                        have L1 : L 1 = false := hk.1
                        skip
                        refine ⟨(by simpa using hsz), Below.setRow hB (by first | exact Nat.le_trans hW0 hp.1 | exact ge_r | omega | (have := hB.size; simp at this ⊢; omega)) _, v.rowOther (by first | exact ne_v_r | exact Ne.symm ne_r_v | omega) _, ?_⟩
                        rw [show upL L 1 1 = true from rfl]
                        exact r.row _
                    refine stepV 2 rfl rfl (fun _ _ _ h => h) ?_ ?_
                    · intros; go_simp; exact ⟨rfl, rfl⟩
                    exact AllI.nil
                  case hV0 => exact fun p q => AllI.nil
                  case he =>
                  clear hB v r
                  rintro p wrr ⟨hsz, hB, v, r⟩
                  replace r : blk wrr (w.heap.size + 1) (rsc (fun _ => 0, 0)) 50 := r
                  clear lt_v lt_r hsz hW0
                  go_wp2_with (fail)
                  refine bodyPost_ret (results_vec rfl _ _ _ _ _ _ _ rfl r Tryz.underlying50 rfl (by first | kernel_rfl | (rw [rsc_size]; kernel_rfl))) rfl ?_
                  refine ⟨?_, hB⟩
                  rfl
              · have d3 : decide ((k : Int) = f) = false := decide_eq_false h3
                have d6 : ((k : Int) == f) = false := by simp [h3]
                have HV : whB h f k = true := by unfold whB; rw [e1, e2, d3]; simp
                clear e1 e2
                replace HV := Lib.hid HV
                clear h1 h2 h3
                go_wp2_with (fail)
                go_roundg (4 - (k + 1))
                case rel =>
                  refine ⟨k + 1, by omega, rfl, fun j hj => ?_, v, r, hB⟩
                  by_cases e : j = k
                  · subst e; exact HV.out
                  · exact hall.out j (by omega)
                case measure => omega
        · obtain rfl : k = 4 := by omega
          exact absurd (newB_all hf hall.out) (by rw [hn]; decide)
set_option maxRecDepth 100000 in
set_option maxHeartbeats 6000000 in
theorem rwnew_ok (h : Nat → Int) (f : Int) (w : World) (hn : newB h f = true) : Calls Tryz.prog 69 #[.agg (qfn h), .int .i64 f] w fun e w' => e = .returned (.tuple #[.agg (rsc (h, f)), .int .i64 0]) ∧ Below w.heap.size w w' := by
  by_cases h1 : f < -1
  · have d1 : decide (f < -1) = true := decide_eq_true h1
    exact absurd (newB_SI hn).1.l (by omega)
  · have d1 : decide (f < -1) = false := decide_eq_false h1
    by_cases h2 : 3 < f
    · have d2 : decide (3 < f) = true := decide_eq_true h2
      exact absurd (newB_SI hn).1.u (by omega)
    · have d2 : decide (3 < f) = false := decide_eq_false h2
      have hf : isW f = true := by unfold isW; rw [decide_eq_true (show -1 ≤ f by omega), decide_eq_true (show f ≤ 3 by omega)]; rfl
      clear h1 h2
      go_enter Tryz.func69, Tryz.ntmps69
      go_upto_region 1 with (fail)
      simp only [rsc_zero]
      have v : blk ((w.alloc (.cells (qfn h) 28)).alloc (.cells (rsc (fun _ => 0, 0)) 50)) w.heap.size (qfn h) 28 := (blk.new _ _ _).alloc _
      have r : blk ((w.alloc (.cells (qfn h) 28)).alloc (.cells (rsc (fun _ => 0, 0)) 50)) (w.heap.size + 1) (rsc (fun _ => 0, 0)) 50 := blk.new' (by simp)
      have hB : Below w.heap.size w ((w.alloc (.cells (qfn h) 28)).alloc (.cells (rsc (fun _ => 0, 0)) 50)) := by go_grown
      generalize ((w.alloc (.cells (qfn h) 28)).alloc (.cells (rsc (fun _ => 0, 0)) 50)) = w0 at *
      go_wp2_with (fail)
      go_loopg [6] 4 (fun g iv wr => ∃ k : Nat, g + k = 4 ∧ iv = .int .i64 k ∧ Hid (∀ j, j < k → whB h f j = true) ∧ blk wr w.heap.size (qfn h) 28 ∧ blk wr (w.heap.size + 1) (rsc (fun _ => 0, 0)) 50 ∧ Below w.heap.size w wr)
      case atStart => exact ⟨0, rfl, rfl, fun j hj => by omega, v, r, hB⟩
      case round =>
        clear hB v r
        obtain ⟨k, hk, rfl, hall, v, r, hB⟩ := hrel
        by_cases hkn : k < 4
        · have hdk : decide ((k : Int) < 4) = true := decide_eq_true (by omega)
          have hdk' : decide (k < 4) = true := decide_eq_true (by omega)
          have hk3 : (k : Int) < 4 := by omega
          have hw3 : IntKind.i64.wrap ((k : Int) + 1) = ((k + 1 : Nat) : Int) := by rw [IntKind.wrap_i64]; omega
          have hc : wr.cell? ⟨w.heap.size, k, none⟩ = some (.int .i64 (h k)) := v.cellIs (qfn_get h hkn)
          by_cases h1 : h k < -16777216
          · have d1 : decide (h k < -16777216) = true := decide_eq_true h1
            have HV : whB h f k = false := by unfold whB; rw [decide_eq_false (show ¬ -16777216 ≤ h k by omega)]; rfl
            exact absurd (newB_not hkn HV) (by rw [hn]; decide)
          · have d1 : decide (h k < -16777216) = false := decide_eq_false h1
            by_cases h2 : 16777216 < h k
            · have d2 : decide (16777216 < h k) = true := decide_eq_true h2
              have HV : whB h f k = false := by unfold whB; rw [decide_eq_false (show ¬ h k ≤ 16777216 by omega)]; simp
              exact absurd (newB_not hkn HV) (by rw [hn]; decide)
            · have d2 : decide (16777216 < h k) = false := decide_eq_false h2
              have e1 : decide (-16777216 ≤ h k) = true := decide_eq_true (by omega)
              have e2 : decide (h k ≤ 16777216) = true := decide_eq_true (by omega)
              by_cases h3 : (k : Int) = f
              · have d3 : decide ((k : Int) = f) = true := decide_eq_true h3
                by_cases h4 : h k = 0
                · have d4 : (h k != 0) = false := by simp [h4]
                  have d5 : decide (h k = 0) = true := decide_eq_true h4
                  have HV : whB h f k = true := by unfold whB; rw [e1, e2, d3, d5]; rfl
                  clear e1 e2 d3 d5
                  subst h3
                  replace HV := Lib.hid HV
                  clear h1 h2 h4
                  go_wp2_with (fail)
                  go_roundg (4 - (k + 1))
                  case rel =>
                    refine ⟨k + 1, by omega, rfl, fun j hj => ?_, v, r, hB⟩
                    by_cases e : j = k
                    · subst e; exact HV.out
                    · exact hall.out j (by omega)
                  case measure => omega
                · have d4 : (h k != 0) = true := by simp [h4]
                  have d5 : decide (h k = 0) = false := decide_eq_false h4
                  have HV : whB h f k = false := by unfold whB; rw [e1, e2, d3, d5]; rfl
                  clear e1 e2 d3 d5
                  subst h3
                  exact absurd (newB_not hkn HV) (by rw [hn]; decide)
              · have d3 : decide ((k : Int) = f) = false := decide_eq_false h3
                have d6 : ((k : Int) == f) = false := by simp [h3]
                have HV : whB h f k = true := by unfold whB; rw [e1, e2, d3]; simp
                clear e1 e2
                replace HV := Lib.hid HV
                clear h1 h2 h3
                go_wp2_with (fail)
                go_roundg (4 - (k + 1))
                case rel =>
                  refine ⟨k + 1, by omega, rfl, fun j hj => ?_, v, r, hB⟩
                  by_cases e : j = k
                  · subst e; exact HV.out
                  · exact hall.out j (by omega)
                case measure => omega
        · obtain rfl : k = 4 := by omega
          go_upto_region 8 with (fail)
          have lt_v := v.lt
          have lt_r := r.lt
          have hW0 : w.heap.size ≤ wr.heap.size := by simpa using hB.size
          apply wp_region_Q 5 [0, 1, 3, 7, 15] [] [_, _, _, (fun _ => undef), _] (fun p L w' => wr.heap.size ≤ w'.heap.size ∧ Below w.heap.size w w' ∧ blk w' w.heap.size (qfn h) 28 ∧ blk w' (w.heap.size + 1) (bif L 3 then (rsc (h, f)) else (rsc (fun _ => 0, 0))) 50) _ [(0, 40), (1, 41), (2, 42), (4, 5)] [0, 1, 2, 3, 4]
          case hn => rfl
          case hB => kernel_rfl
          case hds => kernel_rfl
          case hA => (intro p; simp only [putsD, Act.put, sIT, sCZ, sCS, List.getD_cons_zero, List.getD_cons_succ]; exact rfl)
          case h0 => exact fun p => ⟨Nat.le_refl _, hB, v, r⟩
          case hmore => exact fun p L w1 w2 ⟨hsz, hB, v, r⟩ hm => ⟨Nat.le_trans hsz hm.size, hB.trans (hm.mono (Nat.le_trans hW0 hsz)), v.below hm v.lt, r.below hm r.lt⟩
          case hs =>
            intro more
            refine stepV 0 rfl rfl (fun _ _ _ h => h) ?_ ?_
            · rintro p L w1 ⟨hsz, hB, v, r⟩ hk
              have L3 : L 3 = false := hk.2.2 3 rfl
              first | exact valR_row _ _ rfl _ rfl _ _ v _ Tryz.underlying28 rfl (by first | kernel_rfl | (rw [qfn_size]; kernel_rfl)) rfl | (have hc := v.cellIs (qfn_get _ (show 0 < 4 by omega)); go_simp; exact ⟨rfl, rfl⟩)
            refine stepV 1 rfl rfl (fun _ _ _ h => h) ?_ ?_
            · intros; go_simp; exact ⟨rfl, rfl⟩
            refine AllI.cons ?_ ?_
            · refine stepI_val 2 rfl (fun p => rfl) ?_ (fun _ _ _ h => h)
              intros; simp only [qfn]; go_simp; exact ⟨rfl, rfl⟩
            refine AllI.cons ?_ ?_
            · refine stepI_store 3 rfl (fun p => rfl) (fun p => rfl) _ _ _ rfl (fun _ => (w.heap.size + 1)) 0 (fun p => rfl) (fun p => (rsc (h, f))) (fun p => (congrArg Value.agg (rsc_of h f))) (fun p => (rsc (fun _ => 0, 0))) (fun p => (rsc (h, f))) 50 (fun p => over_ss _ _) (fun p => by first | (rw [rsc_size, rsc_size]; decide) | simp [rsc_size, rsc_size]) (fun p => by rw [rsc_size]; kernel_rfl) (fun p => rsc_one _) ?_ ?_
              · rintro p L w1 ⟨hsz, hB, v, r⟩ hk
                have L3 : L 3 = false := hk.1
                rw [L3] at r
                try simp only [cond_true, cond_false] at r
                exact r
              · rintro p L w1 ⟨hsz, hB, v, r⟩ hk
                have L3 : L 3 = false := hk.1
                skip
                refine ⟨(by simpa using hsz), Below.setRow hB (by first | exact Nat.le_trans hW0 hp.1 | exact ge_r | omega | (have := hB.size; simp at this ⊢; omega)) _, v.rowOther (by first | exact ne_v_r | exact Ne.symm ne_r_v | omega) _, ?_⟩
                rw [show upL L 3 3 = true from rfl]
                exact r.row _
            refine stepV 4 rfl rfl (fun _ _ _ h => h) ?_ ?_
            · intros; go_simp; exact ⟨rfl, rfl⟩
            exact AllI.nil
          case hV0 => exact fun p q => AllI.nil
          case he =>
          clear hB v r
          rintro p wrr ⟨hsz, hB, v, r⟩
          replace r : blk wrr (w.heap.size + 1) (rsc (h, f)) 50 := r
          clear lt_v lt_r hsz hW0
          go_wp2_with (fail)
          refine bodyPost_ret (results_vec rfl _ _ _ _ _ _ _ rfl r Tryz.underlying50 rfl (by first | kernel_rfl | (rw [rsc_size]; kernel_rfl))) rfl ?_
          refine ⟨?_, hB⟩
          rfl
set_option maxRecDepth 100000 in
set_option maxHeartbeats 2000000 in
theorem rallowed_any (T : Nat → Int) (w : World) : Calls Tryz.prog 62 #[.agg (vfn T)] w fun e w' => e = .returned (.bool (allB T)) ∧ Below w.heap.size w w' := by
  rw [← allB_abs T]
  have VA := Lib.hid (fun w => rvalid_any T w)
  cases hk : okV T with
  | true =>
    rw [hk] at VA
    have AB := Lib.hid (fun w => rabove_any T 1048576 w hk ⟨by omega, by omega⟩)
    clear hk
    generalize decide ((1048576 : Int).natAbs * (1048576 : Int).natAbs < sq3 T) = R at *
    go_enter Tryz.func62, Tryz.ntmps62
    go_upto_region 1 with (fail)
    have v : blk (w.alloc (.cells (vfn T) 27)) w.heap.size (vfn T) 27 := blk.new _ _ _
    have hB : Below w.heap.size w (w.alloc (.cells (vfn T) 27)) := by go_grown
    generalize (w.alloc (.cells (vfn T) 27)) = w0 at *
    go_wp2_with (first
      | (refine wpList_load_rowG ?hw _ _ rfl _ rfl _ _ _ _ v Tryz.underlying27 rfl ?hi ?_; (case hw => (first | rfl | (simp [Region.wanted, yielded]; done))); (case hi => (first | kernel_rfl | (rw [vfn_size]; kernel_rfl))))
      | (go_at_call 88; with_reducible refine (VA.out _).mono ?_; rintro e w1 ⟨rfl, hb⟩; replace hB := hB.trans (hb.mono hB.size); replace v := v.below hb v.lt; clear hb)
      | (go_at_call 89; with_reducible refine (AB.out _).mono ?_; rintro e w2 ⟨rfl, hb⟩; replace hB := hB.trans (hb.mono hB.size); replace v := v.below hb v.lt; clear hb))
    go_ret
    exact ⟨rfl, hB⟩
  | false =>
    rw [hk] at VA
    clear hk
    rw [Bool.false_and]
    go_enter Tryz.func62, Tryz.ntmps62
    go_upto_region 1 with (fail)
    have v : blk (w.alloc (.cells (vfn T) 27)) w.heap.size (vfn T) 27 := blk.new _ _ _
    have hB : Below w.heap.size w (w.alloc (.cells (vfn T) 27)) := by go_grown
    generalize (w.alloc (.cells (vfn T) 27)) = w0 at *
    go_wp2_with (first
      | (refine wpList_load_rowG ?hw _ _ rfl _ rfl _ _ _ _ v Tryz.underlying27 rfl ?hi ?_; (case hw => (first | rfl | (simp [Region.wanted, yielded]; done))); (case hi => (first | kernel_rfl | (rw [vfn_size]; kernel_rfl))))
      | (go_at_call 88; with_reducible refine (VA.out _).mono ?_; rintro e w1 ⟨rfl, hb⟩; replace hB := hB.trans (hb.mono hB.size); replace v := v.below hb v.lt; clear hb))
    go_ret
    exact ⟨rfl, hB⟩
set_option maxRecDepth 100000 in
set_option maxHeartbeats 4000000 in
theorem rbnew_1 (X : BSt) (w : World) (hQ : ∀ i, i < 4 → I64 (X.Q i)) (hn : newB X.h X.f = false) : Calls Tryz.prog 44 #[.agg (qfn X.Q), .agg (vfn X.T), .agg (qfn X.h), .int .i64 X.f] w fun e w' => e = .returned (.tuple #[.agg (rbc BSt.zero), .int .i64 2]) ∧ Below w.heap.size w w' := by
  have VA := Lib.hid (fun w => rqvalid_any X.Q w hQ)
  clear hQ
  have AL := Lib.hid (fun w => rallowed_any X.T w)
  have WN := Lib.hid (fun w => rwnew_no X.h X.f w hn)
  go_enter Tryz.func44, Tryz.ntmps44
  go_upto_region 1 with (fail)
  simp only [rbc_zero]
  have q : blk ((((w.alloc (.cells (qfn X.Q) 31)).alloc (.cells (vfn X.T) 27)).alloc (.cells (qfn X.h) 28)).alloc (.cells (rbc BSt.zero) 52)) w.heap.size (qfn X.Q) 31 := (((blk.new _ _ _).alloc _).alloc _).alloc _
  have t : blk ((((w.alloc (.cells (qfn X.Q) 31)).alloc (.cells (vfn X.T) 27)).alloc (.cells (qfn X.h) 28)).alloc (.cells (rbc BSt.zero) 52)) (w.heap.size + 1) (vfn X.T) 27 := ((blk.new' (by simp)).alloc _).alloc _
  have u : blk ((((w.alloc (.cells (qfn X.Q) 31)).alloc (.cells (vfn X.T) 27)).alloc (.cells (qfn X.h) 28)).alloc (.cells (rbc BSt.zero) 52)) (w.heap.size + 2) (qfn X.h) 28 := (blk.new' (by simp)).alloc _
  have r : blk ((((w.alloc (.cells (qfn X.Q) 31)).alloc (.cells (vfn X.T) 27)).alloc (.cells (qfn X.h) 28)).alloc (.cells (rbc BSt.zero) 52)) (w.heap.size + 3) (rbc BSt.zero) 52 := blk.new' (by simp)
  have hB : Below w.heap.size w ((((w.alloc (.cells (qfn X.Q) 31)).alloc (.cells (vfn X.T) 27)).alloc (.cells (qfn X.h) 28)).alloc (.cells (rbc BSt.zero) 52)) := by go_grown
  generalize ((((w.alloc (.cells (qfn X.Q) 31)).alloc (.cells (vfn X.T) 27)).alloc (.cells (qfn X.h) 28)).alloc (.cells (rbc BSt.zero) 52)) = w0 at *
  have lt_q := q.lt
  have lt_t := t.lt
  have lt_u := u.lt
  have lt_r := r.lt
  have hW0 : w.heap.size ≤ w0.heap.size := by simpa using hB.size
  apply wp_region_Q 9 [0, 1, 3, 7, 15, 31, 63, 127, 255] [6] [_, _, _, _, _, _, (fun p => .pointer (some ⟨p 6, 0, none⟩)), (fun _ => undef), _] (fun p L w' => w0.heap.size ≤ w'.heap.size ∧ Below w.heap.size w w' ∧ blk w' w.heap.size (qfn X.Q) 31 ∧ blk w' (w.heap.size + 1) (vfn X.T) 27 ∧ blk w' (w.heap.size + 2) (qfn X.h) 28 ∧ blk w' (w.heap.size + 3) (rbc BSt.zero) 52 ∧ (L 6 = true → w0.heap.size ≤ p 6 ∧ blk w' (p 6) (bif L 7 then (rsc (fun _ => 0, 0)) else (rsc (fun _ => 0, 0))) 50)) _ [(0, 13), (1, 14), (2, 15), (3, 12), (4, 16), (5, 17), (6, 10), (8, 11)] [0, 1, 2, 3, 4, 5, 6, 7, 8]
  case hn => rfl
  case hB => kernel_rfl
  case hds => kernel_rfl
  case hA => (intro p; simp only [putsD, Act.put, sIT, sCZ, sCS, List.getD_cons_zero, List.getD_cons_succ]; exact rfl)
  case h0 => exact fun p => ⟨Nat.le_refl _, hB, q, t, u, r, fun h => absurd h (by decide)⟩
  case hmore => exact fun p L w1 w2 ⟨hsz, hB, q, t, u, r, h_s⟩ hm => ⟨Nat.le_trans hsz hm.size, hB.trans (hm.mono (Nat.le_trans hW0 hsz)), q.below hm q.lt, t.below hm t.lt, u.below hm u.lt, r.below hm r.lt, fun hl => ⟨(h_s hl).1, (h_s hl).2.below hm (h_s hl).2.lt⟩⟩
  case hs =>
    intro more
    refine stepV 0 rfl rfl (fun _ _ _ h => h) ?_ ?_
    · rintro p L w1 ⟨hsz, hB, q, t, u, r, h_s⟩ hk
      have L7 : L 7 = false := hk.2.2 7 rfl
      first | exact valR_row _ _ rfl _ rfl _ _ u _ Tryz.underlying28 rfl (by first | kernel_rfl | (rw [qfn_size]; kernel_rfl)) rfl | (have hc := u.cellIs (qfn_get _ (show 0 < 4 by omega)); go_simp; exact ⟨rfl, rfl⟩)
    refine stepV 1 rfl rfl (fun _ _ _ h => h) ?_ ?_
    · intros; go_simp; exact ⟨rfl, rfl⟩
    refine stepD 2 rfl (fun p => rfl) (fun _ _ _ h => h) more ?_ ?_
    · rintro p L w1 ⟨hsz, hB, q, t, u, r, h_s⟩ hk
      go_simp
      refine (WN.out _).mono ?_
      rintro e w2 ⟨rfl, h2⟩
      first | exact ⟨rfl, h2⟩ | (subst h2; exact ⟨rfl, Below.refl _ _⟩)
    refine stepV 3 rfl rfl (fun _ _ _ h => h) ?_ ?_
    · intros; go_simp; exact ⟨rfl, rfl⟩
    refine stepV 4 rfl rfl (fun _ _ _ h => h) ?_ ?_
    · intros; go_simp; exact ⟨rfl, rfl⟩
    refine stepV 5 rfl rfl (fun _ _ _ h => h) ?_ ?_
    · intros; go_simp; exact ⟨rfl, rfl⟩
    refine AllI.cons ?_ ?_
    · refine stepI_alloc 6 rfl (fun p => rfl) rfl (rsc (fun _ => 0, 0)) 50 (fun p => rfl) ?_ ?_
      · intro p w1
        go_simp
        first | rfl | rw [rsc_zero]
      rintro p L w1 ⟨hsz, hB, q, t, u, r, h_s⟩ hk
      have L7 : L 7 = false := hk.2.2 7 rfl
      refine ⟨Nat.le_trans hsz (by simp), hB.alloc (Nat.le_trans (by first | exact hW0 | (have := hB.size; simp at this ⊢; omega)) hsz) _, q.alloc _, t.alloc _, u.alloc _, r.alloc _, fun _ => ⟨hsz, ?_⟩⟩
      rw [show upL L 6 7 = false from L7]
      exact blk.new _ _ _
    refine AllI.cons ?_ ?_
    · refine stepI_store 7 rfl (fun p => rfl) (fun p => rfl) _ _ _ rfl (fun p => p 6) 0 (fun p => rfl) (fun p => (rsc (fun _ => 0, 0))) (fun p => rfl) (fun p => (rsc (fun _ => 0, 0))) (fun p => (rsc (fun _ => 0, 0))) 50 (fun p => over_ss _ _) (fun p => by first | (rw [rsc_size, rsc_size]; decide) | simp [rsc_size, rsc_size]) (fun p => by rw [rsc_size]; kernel_rfl) (fun p => rsc_one _) ?_ ?_
      · rintro p L w1 ⟨hsz, hB, q, t, u, r, h_s⟩ hk
        have L7 : L 7 = false := hk.1
        have hh := (h_s (hk.2.1 6 rfl)).2
        rw [L7] at hh
        try simp only [cond_true, cond_false] at hh
        exact hh
      · rintro p L w1 ⟨hsz, hB, q, t, u, r, h_s⟩ hk
        have L7 : L 7 = false := hk.1
        skip
        have hp := h_s (hk.2.1 6 rfl)
        refine ⟨(by simpa using hsz), Below.setRow hB (by first | exact Nat.le_trans hW0 hp.1 | exact ge_s | omega | (have := hB.size; simp at this ⊢; omega)) _, q.rowOther (by first | exact Nat.ne_of_lt (Nat.lt_of_lt_of_le lt_q hp.1) | omega) _, t.rowOther (by first | exact Nat.ne_of_lt (Nat.lt_of_lt_of_le lt_t hp.1) | omega) _, u.rowOther (by first | exact Nat.ne_of_lt (Nat.lt_of_lt_of_le lt_u hp.1) | omega) _, r.rowOther (by first | exact Nat.ne_of_lt (Nat.lt_of_lt_of_le lt_r hp.1) | omega) _, fun _ => ⟨hp.1, ?_⟩⟩
        rw [show upL L 7 7 = true from rfl]
        exact hp.2.row _
    refine stepV 8 rfl rfl (fun _ _ _ h => h) ?_ ?_
    · intros; go_simp; exact ⟨rfl, rfl⟩
    exact AllI.nil
  case hV0 =>
    intro p q
    refine AllI.cons ?_ ?_
    · skip
      iterate 9 (refine AllI.cons (by first | exact .inl rfl | (refine .inr ?_; simp only [List.getD_cons_zero, List.getD_cons_succ]; done) | exact .inr rfl) ?_)
      exact AllI.nil
    exact AllI.nil
  case he =>
  clear hB q t u r
  rintro p w0r ⟨hsz, hB, q, t, u, r, h_s⟩
  obtain ⟨le_s, s⟩ := h_s rfl
  clear h_s
  replace s : blk w0r (p 6) (rsc (fun _ => 0, 0)) 50 := s
  have ne_q_s : w.heap.size ≠ p 6 := Nat.ne_of_lt (Nat.lt_of_lt_of_le lt_q le_s)
  have ne_t_s : (w.heap.size + 1) ≠ p 6 := Nat.ne_of_lt (Nat.lt_of_lt_of_le lt_t le_s)
  have ne_u_s : (w.heap.size + 2) ≠ p 6 := Nat.ne_of_lt (Nat.lt_of_lt_of_le lt_u le_s)
  have ne_r_s : (w.heap.size + 3) ≠ p 6 := Nat.ne_of_lt (Nat.lt_of_lt_of_le lt_r le_s)
  have ge_s : w.heap.size ≤ p 6 := Nat.le_trans hW0 le_s
  generalize p 6 = s_b at *
  clear lt_q lt_t lt_u lt_r hsz hW0
  go_upto_region 3 with (first
    | (refine wpList_load_rowG ?hw _ _ rfl _ rfl _ _ _ _ q Tryz.underlying31 rfl ?hi ?_; (case hw => (first | rfl | (simp [Region.wanted, yielded]; done))); (case hi => (first | kernel_rfl | (rw [qfn_size]; kernel_rfl))))
    | (refine wpList_load_rowG ?hw _ _ rfl _ rfl _ _ _ _ t Tryz.underlying27 rfl ?hi ?_; (case hw => (first | rfl | (simp [Region.wanted, yielded]; done))); (case hi => (first | kernel_rfl | (rw [vfn_size]; kernel_rfl)))))
  have lt_q := q.lt
  have lt_t := t.lt
  have lt_u := u.lt
  have lt_r := r.lt
  have lt_s := s.lt
  have hW0 : w.heap.size ≤ w0r.heap.size := by simpa using hB.size
  apply wp_region_Q 3 [0, 1, 3] [] [_, (fun _ => undef), _] (fun p L w' => w0r.heap.size ≤ w'.heap.size ∧ Below w.heap.size w w' ∧ blk w' w.heap.size (qfn X.Q) 31 ∧ blk w' (w.heap.size + 1) (vfn X.T) 27 ∧ blk w' (w.heap.size + 2) (qfn X.h) 28 ∧ blk w' (w.heap.size + 3) (bif L 1 then (rbc BSt.zero) else (rbc BSt.zero)) 52 ∧ blk w' s_b (rsc (fun _ => 0, 0)) 50) _ [(0, 30), (2, 9)] [0, 1, 2]
  case hn => rfl
  case hB => kernel_rfl
  case hds => kernel_rfl
  case hA => (intro p; simp only [putsD, Act.put, sIT, sCZ, sCS, List.getD_cons_zero, List.getD_cons_succ]; exact rfl)
  case h0 => exact fun p => ⟨Nat.le_refl _, hB, q, t, u, r, s⟩
  case hmore => exact fun p L w1 w2 ⟨hsz, hB, q, t, u, r, s⟩ hm => ⟨Nat.le_trans hsz hm.size, hB.trans (hm.mono (Nat.le_trans hW0 hsz)), q.below hm q.lt, t.below hm t.lt, u.below hm u.lt, r.below hm r.lt, s.below hm s.lt⟩
  case hs =>
    intro more
    refine stepV 0 rfl rfl (fun _ _ _ h => h) ?_ ?_
    · intros; (try simp only [vfn, qfn]); go_simp; exact ⟨rfl, rfl⟩
    refine AllI.cons ?_ ?_
    · refine stepI_store 1 rfl (fun p => rfl) (fun p => rfl) _ _ _ rfl (fun _ => (w.heap.size + 3)) 0 (fun p => rfl) (fun p => (rbc BSt.zero)) (fun p => (congrArg Value.agg rbc_zero)) (fun p => (rbc BSt.zero)) (fun p => (rbc BSt.zero)) 52 (fun p => over_rr _ _) (fun p => by first | (rw [rbc_size, rbc_size]; decide) | simp [rbc_size, rbc_size]) (fun p => by rw [rbc_size]; kernel_rfl) (fun p => rbc_one _) ?_ ?_
      · rintro p L w1 ⟨hsz, hB, q, t, u, r, s⟩ hk
        have L1 : L 1 = false := hk.1
        rw [L1] at r
        try simp only [cond_true, cond_false] at r
        exact r
      · rintro p L w1 ⟨hsz, hB, q, t, u, r, s⟩ hk
        have L1 : L 1 = false := hk.1
        skip
        refine ⟨(by simpa using hsz), Below.setRow hB (by first | exact Nat.le_trans hW0 hp.1 | exact ge_r | omega | (have := hB.size; simp at this ⊢; omega)) _, q.rowOther (by first | exact ne_q_r | exact Ne.symm ne_r_q | omega) _, t.rowOther (by first | exact ne_t_r | exact Ne.symm ne_r_t | omega) _, u.rowOther (by first | exact ne_u_r | exact Ne.symm ne_r_u | omega) _, ?_, s.rowOther (Ne.symm ne_r_s) _⟩
        rw [show upL L 1 1 = true from rfl]
        exact r.row _
    refine stepV 2 rfl rfl (fun _ _ _ h => h) ?_ ?_
    · intros; go_simp; exact ⟨rfl, rfl⟩
    exact AllI.nil
  case hV0 => exact fun p q => AllI.nil
  case he =>
  clear hB q t u r s
  rintro p w0rr ⟨hsz, hB, q, t, u, r, s⟩
  replace r : blk w0rr (w.heap.size + 3) (rbc BSt.zero) 52 := r
  clear lt_q lt_t lt_u lt_r lt_s hsz hW0
  go_wp2_with (fail)
  refine bodyPost_ret (results_vec rfl _ _ _ _ _ _ _ rfl r Tryz.underlying52 rfl (by first | kernel_rfl | (rw [rbc_size]; kernel_rfl))) rfl ?_
  refine ⟨?_, hB⟩
  rfl
set_option maxRecDepth 100000 in
set_option maxHeartbeats 4000000 in
theorem rbnew_2 (X : BSt) (w : World) (hQ : ∀ i, i < 4 → I64 (X.Q i)) (hn : newB X.h X.f = true) (hv : validQ X.Q = false) : Calls Tryz.prog 44 #[.agg (qfn X.Q), .agg (vfn X.T), .agg (qfn X.h), .int .i64 X.f] w fun e w' => e = .returned (.tuple #[.agg (rbc BSt.zero), .int .i64 2]) ∧ Below w.heap.size w w' := by
  have VA := Lib.hid (fun w => rqvalid_any X.Q w hQ)
  clear hQ
  rw [hv] at VA
  have AL := Lib.hid (fun w => rallowed_any X.T w)
  have WN := Lib.hid (fun w => rwnew_ok X.h X.f w hn)
  go_enter Tryz.func44, Tryz.ntmps44
  go_upto_region 1 with (fail)
  simp only [rbc_zero]
  have q : blk ((((w.alloc (.cells (qfn X.Q) 31)).alloc (.cells (vfn X.T) 27)).alloc (.cells (qfn X.h) 28)).alloc (.cells (rbc BSt.zero) 52)) w.heap.size (qfn X.Q) 31 := (((blk.new _ _ _).alloc _).alloc _).alloc _
  have t : blk ((((w.alloc (.cells (qfn X.Q) 31)).alloc (.cells (vfn X.T) 27)).alloc (.cells (qfn X.h) 28)).alloc (.cells (rbc BSt.zero) 52)) (w.heap.size + 1) (vfn X.T) 27 := ((blk.new' (by simp)).alloc _).alloc _
  have u : blk ((((w.alloc (.cells (qfn X.Q) 31)).alloc (.cells (vfn X.T) 27)).alloc (.cells (qfn X.h) 28)).alloc (.cells (rbc BSt.zero) 52)) (w.heap.size + 2) (qfn X.h) 28 := (blk.new' (by simp)).alloc _
  have r : blk ((((w.alloc (.cells (qfn X.Q) 31)).alloc (.cells (vfn X.T) 27)).alloc (.cells (qfn X.h) 28)).alloc (.cells (rbc BSt.zero) 52)) (w.heap.size + 3) (rbc BSt.zero) 52 := blk.new' (by simp)
  have hB : Below w.heap.size w ((((w.alloc (.cells (qfn X.Q) 31)).alloc (.cells (vfn X.T) 27)).alloc (.cells (qfn X.h) 28)).alloc (.cells (rbc BSt.zero) 52)) := by go_grown
  generalize ((((w.alloc (.cells (qfn X.Q) 31)).alloc (.cells (vfn X.T) 27)).alloc (.cells (qfn X.h) 28)).alloc (.cells (rbc BSt.zero) 52)) = w0 at *
  have lt_q := q.lt
  have lt_t := t.lt
  have lt_u := u.lt
  have lt_r := r.lt
  have hW0 : w.heap.size ≤ w0.heap.size := by simpa using hB.size
  apply wp_region_Q 9 [0, 1, 3, 7, 15, 31, 63, 127, 255] [6] [_, _, _, _, _, _, (fun p => .pointer (some ⟨p 6, 0, none⟩)), (fun _ => undef), _] (fun p L w' => w0.heap.size ≤ w'.heap.size ∧ Below w.heap.size w w' ∧ blk w' w.heap.size (qfn X.Q) 31 ∧ blk w' (w.heap.size + 1) (vfn X.T) 27 ∧ blk w' (w.heap.size + 2) (qfn X.h) 28 ∧ blk w' (w.heap.size + 3) (rbc BSt.zero) 52 ∧ (L 6 = true → w0.heap.size ≤ p 6 ∧ blk w' (p 6) (bif L 7 then (rsc (X.h, X.f)) else (rsc (fun _ => 0, 0))) 50)) _ [(0, 13), (1, 14), (2, 15), (3, 12), (4, 16), (5, 17), (6, 10), (8, 11)] [0, 1, 2, 3, 4, 5, 6, 7, 8]
  case hn => rfl
  case hB => kernel_rfl
  case hds => kernel_rfl
  case hA => (intro p; simp only [putsD, Act.put, sIT, sCZ, sCS, List.getD_cons_zero, List.getD_cons_succ]; exact rfl)
  case h0 => exact fun p => ⟨Nat.le_refl _, hB, q, t, u, r, fun h => absurd h (by decide)⟩
  case hmore => exact fun p L w1 w2 ⟨hsz, hB, q, t, u, r, h_s⟩ hm => ⟨Nat.le_trans hsz hm.size, hB.trans (hm.mono (Nat.le_trans hW0 hsz)), q.below hm q.lt, t.below hm t.lt, u.below hm u.lt, r.below hm r.lt, fun hl => ⟨(h_s hl).1, (h_s hl).2.below hm (h_s hl).2.lt⟩⟩
  case hs =>
    intro more
    refine stepV 0 rfl rfl (fun _ _ _ h => h) ?_ ?_
    · rintro p L w1 ⟨hsz, hB, q, t, u, r, h_s⟩ hk
      have L7 : L 7 = false := hk.2.2 7 rfl
      first | exact valR_row _ _ rfl _ rfl _ _ u _ Tryz.underlying28 rfl (by first | kernel_rfl | (rw [qfn_size]; kernel_rfl)) rfl | (have hc := u.cellIs (qfn_get _ (show 0 < 4 by omega)); go_simp; exact ⟨rfl, rfl⟩)
    refine stepV 1 rfl rfl (fun _ _ _ h => h) ?_ ?_
    · intros; go_simp; exact ⟨rfl, rfl⟩
    refine stepD 2 rfl (fun p => rfl) (fun _ _ _ h => h) more ?_ ?_
    · rintro p L w1 ⟨hsz, hB, q, t, u, r, h_s⟩ hk
      go_simp
      refine (WN.out _).mono ?_
      rintro e w2 ⟨rfl, h2⟩
      first | exact ⟨rfl, h2⟩ | (subst h2; exact ⟨rfl, Below.refl _ _⟩)
    refine stepV 3 rfl rfl (fun _ _ _ h => h) ?_ ?_
    · intros; go_simp; exact ⟨rfl, rfl⟩
    refine stepV 4 rfl rfl (fun _ _ _ h => h) ?_ ?_
    · intros; go_simp; exact ⟨rfl, rfl⟩
    refine stepV 5 rfl rfl (fun _ _ _ h => h) ?_ ?_
    · intros; go_simp; exact ⟨rfl, rfl⟩
    refine AllI.cons ?_ ?_
    · refine stepI_alloc 6 rfl (fun p => rfl) rfl (rsc (fun _ => 0, 0)) 50 (fun p => rfl) ?_ ?_
      · intro p w1
        go_simp
        first | rfl | rw [rsc_zero]
      rintro p L w1 ⟨hsz, hB, q, t, u, r, h_s⟩ hk
      have L7 : L 7 = false := hk.2.2 7 rfl
      refine ⟨Nat.le_trans hsz (by simp), hB.alloc (Nat.le_trans (by first | exact hW0 | (have := hB.size; simp at this ⊢; omega)) hsz) _, q.alloc _, t.alloc _, u.alloc _, r.alloc _, fun _ => ⟨hsz, ?_⟩⟩
      rw [show upL L 6 7 = false from L7]
      exact blk.new _ _ _
    refine AllI.cons ?_ ?_
    · refine stepI_store 7 rfl (fun p => rfl) (fun p => rfl) _ _ _ rfl (fun p => p 6) 0 (fun p => rfl) (fun p => (rsc (X.h, X.f))) (fun p => rfl) (fun p => (rsc (fun _ => 0, 0))) (fun p => (rsc (X.h, X.f))) 50 (fun p => over_ss _ _) (fun p => by first | (rw [rsc_size, rsc_size]; decide) | simp [rsc_size, rsc_size]) (fun p => by rw [rsc_size]; kernel_rfl) (fun p => rsc_one _) ?_ ?_
      · rintro p L w1 ⟨hsz, hB, q, t, u, r, h_s⟩ hk
        have L7 : L 7 = false := hk.1
        have hh := (h_s (hk.2.1 6 rfl)).2
        rw [L7] at hh
        try simp only [cond_true, cond_false] at hh
        exact hh
      · rintro p L w1 ⟨hsz, hB, q, t, u, r, h_s⟩ hk
        have L7 : L 7 = false := hk.1
        skip
        have hp := h_s (hk.2.1 6 rfl)
        refine ⟨(by simpa using hsz), Below.setRow hB (by first | exact Nat.le_trans hW0 hp.1 | exact ge_s | omega | (have := hB.size; simp at this ⊢; omega)) _, q.rowOther (by first | exact Nat.ne_of_lt (Nat.lt_of_lt_of_le lt_q hp.1) | omega) _, t.rowOther (by first | exact Nat.ne_of_lt (Nat.lt_of_lt_of_le lt_t hp.1) | omega) _, u.rowOther (by first | exact Nat.ne_of_lt (Nat.lt_of_lt_of_le lt_u hp.1) | omega) _, r.rowOther (by first | exact Nat.ne_of_lt (Nat.lt_of_lt_of_le lt_r hp.1) | omega) _, fun _ => ⟨hp.1, ?_⟩⟩
        rw [show upL L 7 7 = true from rfl]
        exact hp.2.row _
    refine stepV 8 rfl rfl (fun _ _ _ h => h) ?_ ?_
    · intros; go_simp; exact ⟨rfl, rfl⟩
    exact AllI.nil
  case hV0 =>
    intro p q
    refine AllI.cons ?_ ?_
    · skip
      iterate 9 (refine AllI.cons (by first | exact .inl rfl | (refine .inr ?_; simp only [List.getD_cons_zero, List.getD_cons_succ]; done) | exact .inr rfl) ?_)
      exact AllI.nil
    exact AllI.nil
  case he =>
  clear hB q t u r
  rintro p w0r ⟨hsz, hB, q, t, u, r, h_s⟩
  obtain ⟨le_s, s⟩ := h_s rfl
  clear h_s
  replace s : blk w0r (p 6) (rsc (X.h, X.f)) 50 := s
  have ne_q_s : w.heap.size ≠ p 6 := Nat.ne_of_lt (Nat.lt_of_lt_of_le lt_q le_s)
  have ne_t_s : (w.heap.size + 1) ≠ p 6 := Nat.ne_of_lt (Nat.lt_of_lt_of_le lt_t le_s)
  have ne_u_s : (w.heap.size + 2) ≠ p 6 := Nat.ne_of_lt (Nat.lt_of_lt_of_le lt_u le_s)
  have ne_r_s : (w.heap.size + 3) ≠ p 6 := Nat.ne_of_lt (Nat.lt_of_lt_of_le lt_r le_s)
  have ge_s : w.heap.size ≤ p 6 := Nat.le_trans hW0 le_s
  generalize p 6 = s_b at *
  clear lt_q lt_t lt_u lt_r hsz hW0
  go_upto_region 3 with (first
    | (refine wpList_load_rowG ?hw _ _ rfl _ rfl _ _ _ _ q Tryz.underlying31 rfl ?hi ?_; (case hw => (first | rfl | (simp [Region.wanted, yielded]; done))); (case hi => (first | kernel_rfl | (rw [qfn_size]; kernel_rfl))))
    | (refine wpList_load_rowG ?hw _ _ rfl _ rfl _ _ _ _ t Tryz.underlying27 rfl ?hi ?_; (case hw => (first | rfl | (simp [Region.wanted, yielded]; done))); (case hi => (first | kernel_rfl | (rw [vfn_size]; kernel_rfl))))
    | (go_at_call 85; with_reducible refine (VA.out _).mono ?_; rintro e w2 ⟨rfl, hb⟩; replace hB := hB.trans (hb.mono hB.size); replace q := q.below hb q.lt; replace t := t.below hb t.lt; replace u := u.below hb u.lt; replace r := r.below hb r.lt; replace s := s.below hb s.lt; clear hb))
  have lt_q := q.lt
  have lt_t := t.lt
  have lt_u := u.lt
  have lt_r := r.lt
  have lt_s := s.lt
  have hW0 : w.heap.size ≤ w2.heap.size := by simpa using hB.size
  apply wp_region_Q 3 [0, 1, 3] [] [_, (fun _ => undef), _] (fun p L w' => w2.heap.size ≤ w'.heap.size ∧ Below w.heap.size w w' ∧ blk w' w.heap.size (qfn X.Q) 31 ∧ blk w' (w.heap.size + 1) (vfn X.T) 27 ∧ blk w' (w.heap.size + 2) (qfn X.h) 28 ∧ blk w' (w.heap.size + 3) (bif L 1 then (rbc BSt.zero) else (rbc BSt.zero)) 52 ∧ blk w' s_b (rsc (X.h, X.f)) 50) _ [(0, 30), (2, 9)] [0, 1, 2]
  case hn => rfl
  case hB => kernel_rfl
  case hds => kernel_rfl
  case hA => (intro p; simp only [putsD, Act.put, sIT, sCZ, sCS, List.getD_cons_zero, List.getD_cons_succ]; exact rfl)
  case h0 => exact fun p => ⟨Nat.le_refl _, hB, q, t, u, r, s⟩
  case hmore => exact fun p L w1 w2 ⟨hsz, hB, q, t, u, r, s⟩ hm => ⟨Nat.le_trans hsz hm.size, hB.trans (hm.mono (Nat.le_trans hW0 hsz)), q.below hm q.lt, t.below hm t.lt, u.below hm u.lt, r.below hm r.lt, s.below hm s.lt⟩
  case hs =>
    intro more
    refine stepV 0 rfl rfl (fun _ _ _ h => h) ?_ ?_
    · intros; (try simp only [vfn, qfn]); go_simp; exact ⟨rfl, rfl⟩
    refine AllI.cons ?_ ?_
    · refine stepI_store 1 rfl (fun p => rfl) (fun p => rfl) _ _ _ rfl (fun _ => (w.heap.size + 3)) 0 (fun p => rfl) (fun p => (rbc BSt.zero)) (fun p => (congrArg Value.agg rbc_zero)) (fun p => (rbc BSt.zero)) (fun p => (rbc BSt.zero)) 52 (fun p => over_rr _ _) (fun p => by first | (rw [rbc_size, rbc_size]; decide) | simp [rbc_size, rbc_size]) (fun p => by rw [rbc_size]; kernel_rfl) (fun p => rbc_one _) ?_ ?_
      · rintro p L w1 ⟨hsz, hB, q, t, u, r, s⟩ hk
        have L1 : L 1 = false := hk.1
        rw [L1] at r
        try simp only [cond_true, cond_false] at r
        exact r
      · rintro p L w1 ⟨hsz, hB, q, t, u, r, s⟩ hk
        have L1 : L 1 = false := hk.1
        skip
        refine ⟨(by simpa using hsz), Below.setRow hB (by first | exact Nat.le_trans hW0 hp.1 | exact ge_r | omega | (have := hB.size; simp at this ⊢; omega)) _, q.rowOther (by first | exact ne_q_r | exact Ne.symm ne_r_q | omega) _, t.rowOther (by first | exact ne_t_r | exact Ne.symm ne_r_t | omega) _, u.rowOther (by first | exact ne_u_r | exact Ne.symm ne_r_u | omega) _, ?_, s.rowOther (Ne.symm ne_r_s) _⟩
        rw [show upL L 1 1 = true from rfl]
        exact r.row _
    refine stepV 2 rfl rfl (fun _ _ _ h => h) ?_ ?_
    · intros; go_simp; exact ⟨rfl, rfl⟩
    exact AllI.nil
  case hV0 => exact fun p q => AllI.nil
  case he =>
  clear hB q t u r s
  rintro p w2r ⟨hsz, hB, q, t, u, r, s⟩
  replace r : blk w2r (w.heap.size + 3) (rbc BSt.zero) 52 := r
  clear lt_q lt_t lt_u lt_r lt_s hsz hW0
  go_wp2_with (fail)
  refine bodyPost_ret (results_vec rfl _ _ _ _ _ _ _ rfl r Tryz.underlying52 rfl (by first | kernel_rfl | (rw [rbc_size]; kernel_rfl))) rfl ?_
  refine ⟨?_, hB⟩
  rfl
set_option maxRecDepth 100000 in
set_option maxHeartbeats 4000000 in
theorem rbnew_3 (X : BSt) (w : World) (hQ : ∀ i, i < 4 → I64 (X.Q i)) (hn : newB X.h X.f = true) (hv : validQ X.Q = true) (ha : allB X.T = false) : Calls Tryz.prog 44 #[.agg (qfn X.Q), .agg (vfn X.T), .agg (qfn X.h), .int .i64 X.f] w fun e w' => e = .returned (.tuple #[.agg (rbc BSt.zero), .int .i64 2]) ∧ Below w.heap.size w w' := by
  have VA := Lib.hid (fun w => rqvalid_any X.Q w hQ)
  clear hQ
  rw [hv] at VA
  have AL := Lib.hid (fun w => rallowed_any X.T w)
  rw [ha] at AL
  have WN := Lib.hid (fun w => rwnew_ok X.h X.f w hn)
  go_enter Tryz.func44, Tryz.ntmps44
  go_upto_region 1 with (fail)
  simp only [rbc_zero]
  have q : blk ((((w.alloc (.cells (qfn X.Q) 31)).alloc (.cells (vfn X.T) 27)).alloc (.cells (qfn X.h) 28)).alloc (.cells (rbc BSt.zero) 52)) w.heap.size (qfn X.Q) 31 := (((blk.new _ _ _).alloc _).alloc _).alloc _
  have t : blk ((((w.alloc (.cells (qfn X.Q) 31)).alloc (.cells (vfn X.T) 27)).alloc (.cells (qfn X.h) 28)).alloc (.cells (rbc BSt.zero) 52)) (w.heap.size + 1) (vfn X.T) 27 := ((blk.new' (by simp)).alloc _).alloc _
  have u : blk ((((w.alloc (.cells (qfn X.Q) 31)).alloc (.cells (vfn X.T) 27)).alloc (.cells (qfn X.h) 28)).alloc (.cells (rbc BSt.zero) 52)) (w.heap.size + 2) (qfn X.h) 28 := (blk.new' (by simp)).alloc _
  have r : blk ((((w.alloc (.cells (qfn X.Q) 31)).alloc (.cells (vfn X.T) 27)).alloc (.cells (qfn X.h) 28)).alloc (.cells (rbc BSt.zero) 52)) (w.heap.size + 3) (rbc BSt.zero) 52 := blk.new' (by simp)
  have hB : Below w.heap.size w ((((w.alloc (.cells (qfn X.Q) 31)).alloc (.cells (vfn X.T) 27)).alloc (.cells (qfn X.h) 28)).alloc (.cells (rbc BSt.zero) 52)) := by go_grown
  generalize ((((w.alloc (.cells (qfn X.Q) 31)).alloc (.cells (vfn X.T) 27)).alloc (.cells (qfn X.h) 28)).alloc (.cells (rbc BSt.zero) 52)) = w0 at *
  have lt_q := q.lt
  have lt_t := t.lt
  have lt_u := u.lt
  have lt_r := r.lt
  have hW0 : w.heap.size ≤ w0.heap.size := by simpa using hB.size
  apply wp_region_Q 9 [0, 1, 3, 7, 15, 31, 63, 127, 255] [6] [_, _, _, _, _, _, (fun p => .pointer (some ⟨p 6, 0, none⟩)), (fun _ => undef), _] (fun p L w' => w0.heap.size ≤ w'.heap.size ∧ Below w.heap.size w w' ∧ blk w' w.heap.size (qfn X.Q) 31 ∧ blk w' (w.heap.size + 1) (vfn X.T) 27 ∧ blk w' (w.heap.size + 2) (qfn X.h) 28 ∧ blk w' (w.heap.size + 3) (rbc BSt.zero) 52 ∧ (L 6 = true → w0.heap.size ≤ p 6 ∧ blk w' (p 6) (bif L 7 then (rsc (X.h, X.f)) else (rsc (fun _ => 0, 0))) 50)) _ [(0, 13), (1, 14), (2, 15), (3, 12), (4, 16), (5, 17), (6, 10), (8, 11)] [0, 1, 2, 3, 4, 5, 6, 7, 8]
  case hn => rfl
  case hB => kernel_rfl
  case hds => kernel_rfl
  case hA => (intro p; simp only [putsD, Act.put, sIT, sCZ, sCS, List.getD_cons_zero, List.getD_cons_succ]; exact rfl)
  case h0 => exact fun p => ⟨Nat.le_refl _, hB, q, t, u, r, fun h => absurd h (by decide)⟩
  case hmore => exact fun p L w1 w2 ⟨hsz, hB, q, t, u, r, h_s⟩ hm => ⟨Nat.le_trans hsz hm.size, hB.trans (hm.mono (Nat.le_trans hW0 hsz)), q.below hm q.lt, t.below hm t.lt, u.below hm u.lt, r.below hm r.lt, fun hl => ⟨(h_s hl).1, (h_s hl).2.below hm (h_s hl).2.lt⟩⟩
  case hs =>
    intro more
    refine stepV 0 rfl rfl (fun _ _ _ h => h) ?_ ?_
    · rintro p L w1 ⟨hsz, hB, q, t, u, r, h_s⟩ hk
      have L7 : L 7 = false := hk.2.2 7 rfl
      first | exact valR_row _ _ rfl _ rfl _ _ u _ Tryz.underlying28 rfl (by first | kernel_rfl | (rw [qfn_size]; kernel_rfl)) rfl | (have hc := u.cellIs (qfn_get _ (show 0 < 4 by omega)); go_simp; exact ⟨rfl, rfl⟩)
    refine stepV 1 rfl rfl (fun _ _ _ h => h) ?_ ?_
    · intros; go_simp; exact ⟨rfl, rfl⟩
    refine stepD 2 rfl (fun p => rfl) (fun _ _ _ h => h) more ?_ ?_
    · rintro p L w1 ⟨hsz, hB, q, t, u, r, h_s⟩ hk
      go_simp
      refine (WN.out _).mono ?_
      rintro e w2 ⟨rfl, h2⟩
      first | exact ⟨rfl, h2⟩ | (subst h2; exact ⟨rfl, Below.refl _ _⟩)
    refine stepV 3 rfl rfl (fun _ _ _ h => h) ?_ ?_
    · intros; go_simp; exact ⟨rfl, rfl⟩
    refine stepV 4 rfl rfl (fun _ _ _ h => h) ?_ ?_
    · intros; go_simp; exact ⟨rfl, rfl⟩
    refine stepV 5 rfl rfl (fun _ _ _ h => h) ?_ ?_
    · intros; go_simp; exact ⟨rfl, rfl⟩
    refine AllI.cons ?_ ?_
    · refine stepI_alloc 6 rfl (fun p => rfl) rfl (rsc (fun _ => 0, 0)) 50 (fun p => rfl) ?_ ?_
      · intro p w1
        go_simp
        first | rfl | rw [rsc_zero]
      rintro p L w1 ⟨hsz, hB, q, t, u, r, h_s⟩ hk
      have L7 : L 7 = false := hk.2.2 7 rfl
      refine ⟨Nat.le_trans hsz (by simp), hB.alloc (Nat.le_trans (by first | exact hW0 | (have := hB.size; simp at this ⊢; omega)) hsz) _, q.alloc _, t.alloc _, u.alloc _, r.alloc _, fun _ => ⟨hsz, ?_⟩⟩
      rw [show upL L 6 7 = false from L7]
      exact blk.new _ _ _
    refine AllI.cons ?_ ?_
    · refine stepI_store 7 rfl (fun p => rfl) (fun p => rfl) _ _ _ rfl (fun p => p 6) 0 (fun p => rfl) (fun p => (rsc (X.h, X.f))) (fun p => rfl) (fun p => (rsc (fun _ => 0, 0))) (fun p => (rsc (X.h, X.f))) 50 (fun p => over_ss _ _) (fun p => by first | (rw [rsc_size, rsc_size]; decide) | simp [rsc_size, rsc_size]) (fun p => by rw [rsc_size]; kernel_rfl) (fun p => rsc_one _) ?_ ?_
      · rintro p L w1 ⟨hsz, hB, q, t, u, r, h_s⟩ hk
        have L7 : L 7 = false := hk.1
        have hh := (h_s (hk.2.1 6 rfl)).2
        rw [L7] at hh
        try simp only [cond_true, cond_false] at hh
        exact hh
      · rintro p L w1 ⟨hsz, hB, q, t, u, r, h_s⟩ hk
        have L7 : L 7 = false := hk.1
        skip
        have hp := h_s (hk.2.1 6 rfl)
        refine ⟨(by simpa using hsz), Below.setRow hB (by first | exact Nat.le_trans hW0 hp.1 | exact ge_s | omega | (have := hB.size; simp at this ⊢; omega)) _, q.rowOther (by first | exact Nat.ne_of_lt (Nat.lt_of_lt_of_le lt_q hp.1) | omega) _, t.rowOther (by first | exact Nat.ne_of_lt (Nat.lt_of_lt_of_le lt_t hp.1) | omega) _, u.rowOther (by first | exact Nat.ne_of_lt (Nat.lt_of_lt_of_le lt_u hp.1) | omega) _, r.rowOther (by first | exact Nat.ne_of_lt (Nat.lt_of_lt_of_le lt_r hp.1) | omega) _, fun _ => ⟨hp.1, ?_⟩⟩
        rw [show upL L 7 7 = true from rfl]
        exact hp.2.row _
    refine stepV 8 rfl rfl (fun _ _ _ h => h) ?_ ?_
    · intros; go_simp; exact ⟨rfl, rfl⟩
    exact AllI.nil
  case hV0 =>
    intro p q
    refine AllI.cons ?_ ?_
    · skip
      iterate 9 (refine AllI.cons (by first | exact .inl rfl | (refine .inr ?_; simp only [List.getD_cons_zero, List.getD_cons_succ]; done) | exact .inr rfl) ?_)
      exact AllI.nil
    exact AllI.nil
  case he =>
  clear hB q t u r
  rintro p w0r ⟨hsz, hB, q, t, u, r, h_s⟩
  obtain ⟨le_s, s⟩ := h_s rfl
  clear h_s
  replace s : blk w0r (p 6) (rsc (X.h, X.f)) 50 := s
  have ne_q_s : w.heap.size ≠ p 6 := Nat.ne_of_lt (Nat.lt_of_lt_of_le lt_q le_s)
  have ne_t_s : (w.heap.size + 1) ≠ p 6 := Nat.ne_of_lt (Nat.lt_of_lt_of_le lt_t le_s)
  have ne_u_s : (w.heap.size + 2) ≠ p 6 := Nat.ne_of_lt (Nat.lt_of_lt_of_le lt_u le_s)
  have ne_r_s : (w.heap.size + 3) ≠ p 6 := Nat.ne_of_lt (Nat.lt_of_lt_of_le lt_r le_s)
  have ge_s : w.heap.size ≤ p 6 := Nat.le_trans hW0 le_s
  generalize p 6 = s_b at *
  clear lt_q lt_t lt_u lt_r hsz hW0
  go_upto_region 3 with (first
    | (refine wpList_load_rowG ?hw _ _ rfl _ rfl _ _ _ _ q Tryz.underlying31 rfl ?hi ?_; (case hw => (first | rfl | (simp [Region.wanted, yielded]; done))); (case hi => (first | kernel_rfl | (rw [qfn_size]; kernel_rfl))))
    | (refine wpList_load_rowG ?hw _ _ rfl _ rfl _ _ _ _ t Tryz.underlying27 rfl ?hi ?_; (case hw => (first | rfl | (simp [Region.wanted, yielded]; done))); (case hi => (first | kernel_rfl | (rw [vfn_size]; kernel_rfl))))
    | (go_at_call 85; with_reducible refine (VA.out _).mono ?_; rintro e w2 ⟨rfl, hb⟩; replace hB := hB.trans (hb.mono hB.size); replace q := q.below hb q.lt; replace t := t.below hb t.lt; replace u := u.below hb u.lt; replace r := r.below hb r.lt; replace s := s.below hb s.lt; clear hb)
    | (go_at_call 62; with_reducible refine (AL.out _).mono ?_; rintro e w3 ⟨rfl, hb⟩; replace hB := hB.trans (hb.mono hB.size); replace q := q.below hb q.lt; replace t := t.below hb t.lt; replace u := u.below hb u.lt; replace r := r.below hb r.lt; replace s := s.below hb s.lt; clear hb))
  have lt_q := q.lt
  have lt_t := t.lt
  have lt_u := u.lt
  have lt_r := r.lt
  have lt_s := s.lt
  have hW0 : w.heap.size ≤ w3.heap.size := by simpa using hB.size
  apply wp_region_Q 3 [0, 1, 3] [] [_, (fun _ => undef), _] (fun p L w' => w3.heap.size ≤ w'.heap.size ∧ Below w.heap.size w w' ∧ blk w' w.heap.size (qfn X.Q) 31 ∧ blk w' (w.heap.size + 1) (vfn X.T) 27 ∧ blk w' (w.heap.size + 2) (qfn X.h) 28 ∧ blk w' (w.heap.size + 3) (bif L 1 then (rbc BSt.zero) else (rbc BSt.zero)) 52 ∧ blk w' s_b (rsc (X.h, X.f)) 50) _ [(0, 30), (2, 9)] [0, 1, 2]
  case hn => rfl
  case hB => kernel_rfl
  case hds => kernel_rfl
  case hA => (intro p; simp only [putsD, Act.put, sIT, sCZ, sCS, List.getD_cons_zero, List.getD_cons_succ]; exact rfl)
  case h0 => exact fun p => ⟨Nat.le_refl _, hB, q, t, u, r, s⟩
  case hmore => exact fun p L w1 w2 ⟨hsz, hB, q, t, u, r, s⟩ hm => ⟨Nat.le_trans hsz hm.size, hB.trans (hm.mono (Nat.le_trans hW0 hsz)), q.below hm q.lt, t.below hm t.lt, u.below hm u.lt, r.below hm r.lt, s.below hm s.lt⟩
  case hs =>
    intro more
    refine stepV 0 rfl rfl (fun _ _ _ h => h) ?_ ?_
    · intros; (try simp only [vfn, qfn]); go_simp; exact ⟨rfl, rfl⟩
    refine AllI.cons ?_ ?_
    · refine stepI_store 1 rfl (fun p => rfl) (fun p => rfl) _ _ _ rfl (fun _ => (w.heap.size + 3)) 0 (fun p => rfl) (fun p => (rbc BSt.zero)) (fun p => (congrArg Value.agg rbc_zero)) (fun p => (rbc BSt.zero)) (fun p => (rbc BSt.zero)) 52 (fun p => over_rr _ _) (fun p => by first | (rw [rbc_size, rbc_size]; decide) | simp [rbc_size, rbc_size]) (fun p => by rw [rbc_size]; kernel_rfl) (fun p => rbc_one _) ?_ ?_
      · rintro p L w1 ⟨hsz, hB, q, t, u, r, s⟩ hk
        have L1 : L 1 = false := hk.1
        rw [L1] at r
        try simp only [cond_true, cond_false] at r
        exact r
      · rintro p L w1 ⟨hsz, hB, q, t, u, r, s⟩ hk
        have L1 : L 1 = false := hk.1
        skip
        refine ⟨(by simpa using hsz), Below.setRow hB (by first | exact Nat.le_trans hW0 hp.1 | exact ge_r | omega | (have := hB.size; simp at this ⊢; omega)) _, q.rowOther (by first | exact ne_q_r | exact Ne.symm ne_r_q | omega) _, t.rowOther (by first | exact ne_t_r | exact Ne.symm ne_r_t | omega) _, u.rowOther (by first | exact ne_u_r | exact Ne.symm ne_r_u | omega) _, ?_, s.rowOther (Ne.symm ne_r_s) _⟩
        rw [show upL L 1 1 = true from rfl]
        exact r.row _
    refine stepV 2 rfl rfl (fun _ _ _ h => h) ?_ ?_
    · intros; go_simp; exact ⟨rfl, rfl⟩
    exact AllI.nil
  case hV0 => exact fun p q => AllI.nil
  case he =>
  clear hB q t u r s
  rintro p w3r ⟨hsz, hB, q, t, u, r, s⟩
  replace r : blk w3r (w.heap.size + 3) (rbc BSt.zero) 52 := r
  clear lt_q lt_t lt_u lt_r lt_s hsz hW0
  go_wp2_with (fail)
  refine bodyPost_ret (results_vec rfl _ _ _ _ _ _ _ rfl r Tryz.underlying52 rfl (by first | kernel_rfl | (rw [rbc_size]; kernel_rfl))) rfl ?_
  refine ⟨?_, hB⟩
  rfl
set_option maxRecDepth 100000 in
set_option maxHeartbeats 4000000 in
theorem rbnew_ok (X : BSt) (w : World) (hQ : ∀ i, i < 4 → I64 (X.Q i)) (hn : newB X.h X.f = true) (hv : validQ X.Q = true) (ha : allB X.T = true) : Calls Tryz.prog 44 #[.agg (qfn X.Q), .agg (vfn X.T), .agg (qfn X.h), .int .i64 X.f] w fun e w' => e = .returned (.tuple #[.agg (rbc X), .int .i64 0]) ∧ Below w.heap.size w w' := by
  have VA := Lib.hid (fun w => rqvalid_any X.Q w hQ)
  clear hQ
  rw [hv] at VA
  have AL := Lib.hid (fun w => rallowed_any X.T w)
  rw [ha] at AL
  have WN := Lib.hid (fun w => rwnew_ok X.h X.f w hn)
  go_enter Tryz.func44, Tryz.ntmps44
  go_upto_region 1 with (fail)
  simp only [rbc_zero]
  have q : blk ((((w.alloc (.cells (qfn X.Q) 31)).alloc (.cells (vfn X.T) 27)).alloc (.cells (qfn X.h) 28)).alloc (.cells (rbc BSt.zero) 52)) w.heap.size (qfn X.Q) 31 := (((blk.new _ _ _).alloc _).alloc _).alloc _
  have t : blk ((((w.alloc (.cells (qfn X.Q) 31)).alloc (.cells (vfn X.T) 27)).alloc (.cells (qfn X.h) 28)).alloc (.cells (rbc BSt.zero) 52)) (w.heap.size + 1) (vfn X.T) 27 := ((blk.new' (by simp)).alloc _).alloc _
  have u : blk ((((w.alloc (.cells (qfn X.Q) 31)).alloc (.cells (vfn X.T) 27)).alloc (.cells (qfn X.h) 28)).alloc (.cells (rbc BSt.zero) 52)) (w.heap.size + 2) (qfn X.h) 28 := (blk.new' (by simp)).alloc _
  have r : blk ((((w.alloc (.cells (qfn X.Q) 31)).alloc (.cells (vfn X.T) 27)).alloc (.cells (qfn X.h) 28)).alloc (.cells (rbc BSt.zero) 52)) (w.heap.size + 3) (rbc BSt.zero) 52 := blk.new' (by simp)
  have hB : Below w.heap.size w ((((w.alloc (.cells (qfn X.Q) 31)).alloc (.cells (vfn X.T) 27)).alloc (.cells (qfn X.h) 28)).alloc (.cells (rbc BSt.zero) 52)) := by go_grown
  generalize ((((w.alloc (.cells (qfn X.Q) 31)).alloc (.cells (vfn X.T) 27)).alloc (.cells (qfn X.h) 28)).alloc (.cells (rbc BSt.zero) 52)) = w0 at *
  have lt_q := q.lt
  have lt_t := t.lt
  have lt_u := u.lt
  have lt_r := r.lt
  have hW0 : w.heap.size ≤ w0.heap.size := by simpa using hB.size
  apply wp_region_Q 9 [0, 1, 3, 7, 15, 31, 63, 127, 255] [6] [_, _, _, _, _, _, (fun p => .pointer (some ⟨p 6, 0, none⟩)), (fun _ => undef), _] (fun p L w' => w0.heap.size ≤ w'.heap.size ∧ Below w.heap.size w w' ∧ blk w' w.heap.size (qfn X.Q) 31 ∧ blk w' (w.heap.size + 1) (vfn X.T) 27 ∧ blk w' (w.heap.size + 2) (qfn X.h) 28 ∧ blk w' (w.heap.size + 3) (rbc BSt.zero) 52 ∧ (L 6 = true → w0.heap.size ≤ p 6 ∧ blk w' (p 6) (bif L 7 then (rsc (X.h, X.f)) else (rsc (fun _ => 0, 0))) 50)) _ [(0, 13), (1, 14), (2, 15), (3, 12), (4, 16), (5, 17), (6, 10), (8, 11)] [0, 1, 2, 3, 4, 5, 6, 7, 8]
  case hn => rfl
  case hB => kernel_rfl
  case hds => kernel_rfl
  case hA => (intro p; simp only [putsD, Act.put, sIT, sCZ, sCS, List.getD_cons_zero, List.getD_cons_succ]; exact rfl)
  case h0 => exact fun p => ⟨Nat.le_refl _, hB, q, t, u, r, fun h => absurd h (by decide)⟩
  case hmore => exact fun p L w1 w2 ⟨hsz, hB, q, t, u, r, h_s⟩ hm => ⟨Nat.le_trans hsz hm.size, hB.trans (hm.mono (Nat.le_trans hW0 hsz)), q.below hm q.lt, t.below hm t.lt, u.below hm u.lt, r.below hm r.lt, fun hl => ⟨(h_s hl).1, (h_s hl).2.below hm (h_s hl).2.lt⟩⟩
  case hs =>
    intro more
    refine stepV 0 rfl rfl (fun _ _ _ h => h) ?_ ?_
    · rintro p L w1 ⟨hsz, hB, q, t, u, r, h_s⟩ hk
      have L7 : L 7 = false := hk.2.2 7 rfl
      first | exact valR_row _ _ rfl _ rfl _ _ u _ Tryz.underlying28 rfl (by first | kernel_rfl | (rw [qfn_size]; kernel_rfl)) rfl | (have hc := u.cellIs (qfn_get _ (show 0 < 4 by omega)); go_simp; exact ⟨rfl, rfl⟩)
    refine stepV 1 rfl rfl (fun _ _ _ h => h) ?_ ?_
    · intros; go_simp; exact ⟨rfl, rfl⟩
    refine stepD 2 rfl (fun p => rfl) (fun _ _ _ h => h) more ?_ ?_
    · rintro p L w1 ⟨hsz, hB, q, t, u, r, h_s⟩ hk
      go_simp
      refine (WN.out _).mono ?_
      rintro e w2 ⟨rfl, h2⟩
      first | exact ⟨rfl, h2⟩ | (subst h2; exact ⟨rfl, Below.refl _ _⟩)
    refine stepV 3 rfl rfl (fun _ _ _ h => h) ?_ ?_
    · intros; go_simp; exact ⟨rfl, rfl⟩
    refine stepV 4 rfl rfl (fun _ _ _ h => h) ?_ ?_
    · intros; go_simp; exact ⟨rfl, rfl⟩
    refine stepV 5 rfl rfl (fun _ _ _ h => h) ?_ ?_
    · intros; go_simp; exact ⟨rfl, rfl⟩
    refine AllI.cons ?_ ?_
    · refine stepI_alloc 6 rfl (fun p => rfl) rfl (rsc (fun _ => 0, 0)) 50 (fun p => rfl) ?_ ?_
      · intro p w1
        go_simp
        first | rfl | rw [rsc_zero]
      rintro p L w1 ⟨hsz, hB, q, t, u, r, h_s⟩ hk
      have L7 : L 7 = false := hk.2.2 7 rfl
      refine ⟨Nat.le_trans hsz (by simp), hB.alloc (Nat.le_trans (by first | exact hW0 | (have := hB.size; simp at this ⊢; omega)) hsz) _, q.alloc _, t.alloc _, u.alloc _, r.alloc _, fun _ => ⟨hsz, ?_⟩⟩
      rw [show upL L 6 7 = false from L7]
      exact blk.new _ _ _
    refine AllI.cons ?_ ?_
    · refine stepI_store 7 rfl (fun p => rfl) (fun p => rfl) _ _ _ rfl (fun p => p 6) 0 (fun p => rfl) (fun p => (rsc (X.h, X.f))) (fun p => rfl) (fun p => (rsc (fun _ => 0, 0))) (fun p => (rsc (X.h, X.f))) 50 (fun p => over_ss _ _) (fun p => by first | (rw [rsc_size, rsc_size]; decide) | simp [rsc_size, rsc_size]) (fun p => by rw [rsc_size]; kernel_rfl) (fun p => rsc_one _) ?_ ?_
      · rintro p L w1 ⟨hsz, hB, q, t, u, r, h_s⟩ hk
        have L7 : L 7 = false := hk.1
        have hh := (h_s (hk.2.1 6 rfl)).2
        rw [L7] at hh
        try simp only [cond_true, cond_false] at hh
        exact hh
      · rintro p L w1 ⟨hsz, hB, q, t, u, r, h_s⟩ hk
        have L7 : L 7 = false := hk.1
        skip
        have hp := h_s (hk.2.1 6 rfl)
        refine ⟨(by simpa using hsz), Below.setRow hB (by first | exact Nat.le_trans hW0 hp.1 | exact ge_s | omega | (have := hB.size; simp at this ⊢; omega)) _, q.rowOther (by first | exact Nat.ne_of_lt (Nat.lt_of_lt_of_le lt_q hp.1) | omega) _, t.rowOther (by first | exact Nat.ne_of_lt (Nat.lt_of_lt_of_le lt_t hp.1) | omega) _, u.rowOther (by first | exact Nat.ne_of_lt (Nat.lt_of_lt_of_le lt_u hp.1) | omega) _, r.rowOther (by first | exact Nat.ne_of_lt (Nat.lt_of_lt_of_le lt_r hp.1) | omega) _, fun _ => ⟨hp.1, ?_⟩⟩
        rw [show upL L 7 7 = true from rfl]
        exact hp.2.row _
    refine stepV 8 rfl rfl (fun _ _ _ h => h) ?_ ?_
    · intros; go_simp; exact ⟨rfl, rfl⟩
    exact AllI.nil
  case hV0 =>
    intro p q
    refine AllI.cons ?_ ?_
    · skip
      iterate 9 (refine AllI.cons (by first | exact .inl rfl | (refine .inr ?_; simp only [List.getD_cons_zero, List.getD_cons_succ]; done) | exact .inr rfl) ?_)
      exact AllI.nil
    exact AllI.nil
  case he =>
  clear hB q t u r
  rintro p w0r ⟨hsz, hB, q, t, u, r, h_s⟩
  obtain ⟨le_s, s⟩ := h_s rfl
  clear h_s
  replace s : blk w0r (p 6) (rsc (X.h, X.f)) 50 := s
  have ne_q_s : w.heap.size ≠ p 6 := Nat.ne_of_lt (Nat.lt_of_lt_of_le lt_q le_s)
  have ne_t_s : (w.heap.size + 1) ≠ p 6 := Nat.ne_of_lt (Nat.lt_of_lt_of_le lt_t le_s)
  have ne_u_s : (w.heap.size + 2) ≠ p 6 := Nat.ne_of_lt (Nat.lt_of_lt_of_le lt_u le_s)
  have ne_r_s : (w.heap.size + 3) ≠ p 6 := Nat.ne_of_lt (Nat.lt_of_lt_of_le lt_r le_s)
  have ge_s : w.heap.size ≤ p 6 := Nat.le_trans hW0 le_s
  generalize p 6 = s_b at *
  clear lt_q lt_t lt_u lt_r hsz hW0
  go_upto_region 4 with (first
    | (refine wpList_load_rowG ?hw _ _ rfl _ rfl _ _ _ _ q Tryz.underlying31 rfl ?hi ?_; (case hw => (first | rfl | (simp [Region.wanted, yielded]; done))); (case hi => (first | kernel_rfl | (rw [qfn_size]; kernel_rfl))))
    | (refine wpList_load_rowG ?hw _ _ rfl _ rfl _ _ _ _ t Tryz.underlying27 rfl ?hi ?_; (case hw => (first | rfl | (simp [Region.wanted, yielded]; done))); (case hi => (first | kernel_rfl | (rw [vfn_size]; kernel_rfl))))
    | (go_at_call 85; with_reducible refine (VA.out _).mono ?_; rintro e w2 ⟨rfl, hb⟩; replace hB := hB.trans (hb.mono hB.size); replace q := q.below hb q.lt; replace t := t.below hb t.lt; replace u := u.below hb u.lt; replace r := r.below hb r.lt; replace s := s.below hb s.lt; clear hb)
    | (go_at_call 62; with_reducible refine (AL.out _).mono ?_; rintro e w3 ⟨rfl, hb⟩; replace hB := hB.trans (hb.mono hB.size); replace q := q.below hb q.lt; replace t := t.below hb t.lt; replace u := u.below hb u.lt; replace r := r.below hb r.lt; replace s := s.below hb s.lt; clear hb))
  have lt_q := q.lt
  have lt_t := t.lt
  have lt_u := u.lt
  have lt_r := r.lt
  have lt_s := s.lt
  have hW0 : w.heap.size ≤ w3.heap.size := by simpa using hB.size
  apply wp_region_Q 6 [0, 1, 3, 7, 15, 31] [] [_, _, _, _, (fun _ => undef), _] (fun p L w' => w3.heap.size ≤ w'.heap.size ∧ Below w.heap.size w w' ∧ blk w' w.heap.size (qfn X.Q) 31 ∧ blk w' (w.heap.size + 1) (vfn X.T) 27 ∧ blk w' (w.heap.size + 2) (qfn X.h) 28 ∧ blk w' (w.heap.size + 3) (bif L 4 then (rbc X) else (rbc BSt.zero)) 52 ∧ blk w' s_b (rsc (X.h, X.f)) 50) _ [(0, 31), (1, 32), (2, 33), (3, 34), (5, 9)] [0, 1, 2, 3, 4, 5]
  case hn => rfl
  case hB => kernel_rfl
  case hds => kernel_rfl
  case hA => (intro p; simp only [putsD, Act.put, sIT, sCZ, sCS, List.getD_cons_zero, List.getD_cons_succ]; exact rfl)
  case h0 => exact fun p => ⟨Nat.le_refl _, hB, q, t, u, r, s⟩
  case hmore => exact fun p L w1 w2 ⟨hsz, hB, q, t, u, r, s⟩ hm => ⟨Nat.le_trans hsz hm.size, hB.trans (hm.mono (Nat.le_trans hW0 hsz)), q.below hm q.lt, t.below hm t.lt, u.below hm u.lt, r.below hm r.lt, s.below hm s.lt⟩
  case hs =>
    intro more
    refine stepV 0 rfl rfl (fun _ _ _ h => h) ?_ ?_
    · rintro p L w1 ⟨hsz, hB, q, t, u, r, s⟩ hk
      have L4 : L 4 = false := hk.2.2 4 rfl
      first | exact valR_row _ _ rfl _ rfl _ _ q _ Tryz.underlying31 rfl (by first | kernel_rfl | (rw [qfn_size]; kernel_rfl)) rfl | (have hc := q.cellIs (qfn_get _ (show 0 < 4 by omega)); go_simp; exact ⟨rfl, rfl⟩)
    refine stepV 1 rfl rfl (fun _ _ _ h => h) ?_ ?_
    · rintro p L w1 ⟨hsz, hB, q, t, u, r, s⟩ hk
      have L4 : L 4 = false := hk.2.2 4 rfl
      first | exact valR_row _ _ rfl _ rfl _ _ t _ Tryz.underlying27 rfl (by first | kernel_rfl | (rw [vfn_size]; kernel_rfl)) rfl | (have hc := t.cellIs (vfn_get _ (show 0 < 3 by omega)); go_simp; exact ⟨rfl, rfl⟩)
    refine stepV 2 rfl rfl (fun _ _ _ h => h) ?_ ?_
    · rintro p L w1 ⟨hsz, hB, q, t, u, r, s⟩ hk
      have L4 : L 4 = false := hk.2.2 4 rfl
      first | exact valR_row _ _ rfl _ rfl _ _ s _ Tryz.underlying50 rfl (by first | kernel_rfl | (rw [rsc_size]; kernel_rfl)) rfl | (have hc := s.cellIs (show _[0]? = some _ from rfl); go_simp; exact ⟨rfl, rfl⟩)
    refine AllI.cons ?_ ?_
    · refine stepI_val 3 rfl (fun p => rfl) ?_ (fun _ _ _ h => h)
      intros; simp only [qfn, vfn, rsc]; go_simp; exact ⟨rfl, rfl⟩
    refine AllI.cons ?_ ?_
    · refine stepI_store 4 rfl (fun p => rfl) (fun p => rfl) _ _ _ rfl (fun _ => (w.heap.size + 3)) 0 (fun p => rfl) (fun p => (rbc X)) (fun p => (congrArg Value.agg (rbc_of X))) (fun p => (rbc BSt.zero)) (fun p => (rbc X)) 52 (fun p => over_rr _ _) (fun p => by first | (rw [rbc_size, rbc_size]; decide) | simp [rbc_size, rbc_size]) (fun p => by rw [rbc_size]; kernel_rfl) (fun p => rbc_one _) ?_ ?_
      · rintro p L w1 ⟨hsz, hB, q, t, u, r, s⟩ hk
        have L4 : L 4 = false := hk.1
        rw [L4] at r
        try simp only [cond_true, cond_false] at r
        exact r
      · rintro p L w1 ⟨hsz, hB, q, t, u, r, s⟩ hk
        have L4 : L 4 = false := hk.1
        skip
        refine ⟨(by simpa using hsz), Below.setRow hB (by first | exact Nat.le_trans hW0 hp.1 | exact ge_r | omega | (have := hB.size; simp at this ⊢; omega)) _, q.rowOther (by first | exact ne_q_r | exact Ne.symm ne_r_q | omega) _, t.rowOther (by first | exact ne_t_r | exact Ne.symm ne_r_t | omega) _, u.rowOther (by first | exact ne_u_r | exact Ne.symm ne_r_u | omega) _, ?_, s.rowOther (Ne.symm ne_r_s) _⟩
        rw [show upL L 4 4 = true from rfl]
        exact r.row _
    refine stepV 5 rfl rfl (fun _ _ _ h => h) ?_ ?_
    · intros; go_simp; exact ⟨rfl, rfl⟩
    exact AllI.nil
  case hV0 => exact fun p q => AllI.nil
  case he =>
  clear hB q t u r s
  rintro p w3r ⟨hsz, hB, q, t, u, r, s⟩
  replace r : blk w3r (w.heap.size + 3) (rbc X) 52 := r
  clear lt_q lt_t lt_u lt_r lt_s hsz hW0
  go_wp2_with (fail)
  refine bodyPost_ret (results_vec rfl _ _ _ _ _ _ _ rfl r Tryz.underlying52 rfl (by first | kernel_rfl | (rw [rbc_size]; kernel_rfl))) rfl ?_
  refine ⟨?_, hB⟩
  rfl
theorem rbnew_no (X : BSt) (w : World) (hQ : ∀ i, i < 4 → I64 (X.Q i)) (h : newOk X = false) : Calls Tryz.prog 44 #[.agg (qfn X.Q), .agg (vfn X.T), .agg (qfn X.h), .int .i64 X.f] w fun e w' => e = .returned (.tuple #[.agg (rbc BSt.zero), .int .i64 2]) ∧ Below w.heap.size w w' := by
  unfold newOk at h
  cases hn : newB X.h X.f with
  | false => exact rbnew_1 X w hQ hn
  | true =>
    cases hv : validQ X.Q with
    | false => exact rbnew_2 X w hQ hn hv
    | true =>
      cases ha : allB X.T with
      | false => exact rbnew_3 X w hQ hn hv ha
      | true => rw [hn, hv, ha] at h; cases h
theorem rbnew_yes (X : BSt) (w : World) (hQ : ∀ i, i < 4 → I64 (X.Q i)) (h : newOk X = true) : Calls Tryz.prog 44 #[.agg (qfn X.Q), .agg (vfn X.T), .agg (qfn X.h), .int .i64 X.f] w fun e w' => e = .returned (.tuple #[.agg (rbc X), .int .i64 0]) ∧ Below w.heap.size w w' := by
  simp only [newOk, Bool.and_eq_true] at h
  exact rbnew_ok X w hQ h.1 h.2.1 h.2.2
end Go.Proofs.YtjnocbjngojigaaGreat
