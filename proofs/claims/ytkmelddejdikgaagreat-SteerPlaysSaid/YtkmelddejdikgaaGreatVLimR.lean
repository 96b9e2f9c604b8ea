/-
  Shortened vectors: Limit of the specification.
-/
import Derived.Test.YtkmelddejdikgaaGreatVLimP
set_option maxRecDepth 100000
set_option linter.unusedSimpArgs false
set_option linter.unusedVariables false
namespace Go.Proofs.YtkmelddejdikgaaGreat
open Go.RowKit PM Dt
def psq (f : Nat → Int) : Nat → Nat
 | 0 => 0
 | k + 1 => psq f k + (f k).natAbs * (f k).natAbs
theorem psq3 (f : Nat → Int) : psq f 3 = sq3 f := by
 unfold sq3
 rw [sqs_cons, sqs_cons, sqs_cons, sqs_nil]
 simp only [psq]
 omega
set_option maxHeartbeats 1000000 in
theorem rsquares_any (f : Nat → Int) (w : World) (hI : ∀ i, i < 3 → I64 (f i)) : Calls Tryz.prog 134 #[.agg (vfn f)] w fun e w' => e = .returned (.agg (bigC (sq3 f))) ∧ Below w.heap.size w w' := by
 have HI := Lib.hid hI
 clear hI
 go_enter Tryz.func134, Tryz.ntmps134
 go_upto_region 2 with (fail)
 simp only [zero_eq_big]
 have p : blk (((w.alloc (.cells (vfn f) 27)).alloc (.cells (bigC 0) 121)).alloc (.cells (bigC 0) 121)) w.heap.size (vfn f) 27 := ((blk.new _ _ _).alloc _).alloc _
 have r : blk (((w.alloc (.cells (vfn f) 27)).alloc (.cells (bigC 0) 121)).alloc (.cells (bigC 0) 121)) (w.heap.size + 1) (bigC 0) 121 := (blk.new' (by simp)).alloc _
 have s : blk (((w.alloc (.cells (vfn f) 27)).alloc (.cells (bigC 0) 121)).alloc (.cells (bigC 0) 121)) (w.heap.size + 2) (bigC 0) 121 := blk.new' (by simp)
 have hB : Below w.heap.size w (((w.alloc (.cells (vfn f) 27)).alloc (.cells (bigC 0) 121)).alloc (.cells (bigC 0) 121)) := by go_grown
 generalize ((w.alloc (.cells (vfn f) 27)).alloc (.cells (bigC 0) 121)).alloc (.cells (bigC 0) 121) = w0 at *
 go_wp2_with (fail)
 go_loopg [4] 3 (fun g_ iv wr => ∃ k : Nat, g_ + k = 3 ∧ iv = .int .i64 k ∧ blk wr w.heap.size (vfn f) 27 ∧ blk wr (w.heap.size + 1) (bigC 0) 121 ∧ blk wr (w.heap.size + 2) (bigC (psq f k)) 121 ∧ Below w.heap.size w wr)
 case atStart => exact ⟨0, rfl, rfl, p, r, s, hB⟩
 case round =>
  clear p r s hB
  obtain ⟨k, hk, rfl, p, r, s, hB⟩ := hrel
  by_cases hkn : k < 3
  ·have hdk : decide ((k : Int) < 3) = true := decide_eq_true (by omega)
   have hdk' : decide (k < 3) = true := decide_eq_true hkn
   have hk3 : (k : Int) < 3 := by omega
   have hw3 : IntKind.i64.wrap ((k : Int) + 1) = ((k + 1 : Nat) : Int) := by rw [IntKind.wrap_i64]; omega
   have hi := HI.out k hkn
   have AB := Lib.hid (fun w => abs_any (f k) w hi.1 hi.2)
   obtain ⟨A, hA⟩ : ∃ A, (f k).natAbs = A := ⟨_, rfl⟩
   have hs : psq f (k + 1) = psq f k + A * A := by rw [← hA]; rfl
   rw [hA] at AB
   have HA8 := Lib.hid (show A < 65536 ^ 8 by rw [← hA]; have := hi.1; have := hi.2; omega)
   have HS := Lib.hid hs
   clear hs hA hi
   go_upto_region 5 with (fail)
   refine wp_region_X 11 (by kernel_rfl) (by kernel_rfl) ?_
   replace p := p.drew
   replace r := r.drew
   replace s := s.drew
   replace hB : Below w.heap.size w wr.drew := hB.drew
   generalize wr.drew = wo at *
   refine wpX_take 0 (.agg (bigC (psq f k))) rfl rfl (by kernel_rfl) (fun w1 h1 => detR_row _ _ rfl _ rfl _ _ _ (s.below h1 s.lt) Tryz.underlying121 rfl (by rw [bigC_size]; kernel_rfl) rfl) ?_
   simp only [Act.put, sIT, sCZ, sCS]
   refine wpX_take 1 (.int .i64 k) rfl rfl (by kernel_rfl) (fun w1 h1 => by go_simp; exact ⟨rfl, Below.refl _ _⟩) ?_
   simp only [Act.put, sIT, sCZ, sCS]
   refine wpX_take 2 (.pointer (some ⟨w.heap.size, k, none⟩)) rfl rfl (by kernel_rfl) (fun w1 h1 => by go_simp; first | exact ⟨rfl, Below.refl _ _⟩ | (rw [if_pos hk3]; exact ⟨rfl, Below.refl _ _⟩)) ?_
   simp only [Act.put, sIT, sCZ, sCS]
   refine wpX_take 3 (.int .i64 (f k)) rfl rfl (by kernel_rfl) (fun w1 h1 => by have hc : w1.cell? ⟨w.heap.size, k, none⟩ = some (.int .i64 (f k)) := (p.below h1 p.lt).cellIs (vfn_get _ hkn); go_simp; exact ⟨rfl, Below.refl _ _⟩) ?_
   simp only [Act.put, sIT, sCZ, sCS]
   refine wpX_take 4 (.agg (bigC A)) rfl rfl (by kernel_rfl) (fun w1 h1 => ?_) ?_
   ·go_simp
    refine (AB.out _).mono ?_
    rintro e w2 ⟨rfl, h2⟩
    exact ⟨rfl, h2⟩
   simp only [Act.put, sIT, sCZ, sCS]
   refine wpX_take 5 (.int .i64 k) rfl rfl (by kernel_rfl) (fun w1 h1 => by go_simp; exact ⟨rfl, Below.refl _ _⟩) ?_
   simp only [Act.put, sIT, sCZ, sCS]
   refine wpX_take 6 (.pointer (some ⟨w.heap.size, k, none⟩)) rfl rfl (by kernel_rfl) (fun w1 h1 => by go_simp; first | exact ⟨rfl, Below.refl _ _⟩ | (rw [if_pos hk3]; exact ⟨rfl, Below.refl _ _⟩)) ?_
   simp only [Act.put, sIT, sCZ, sCS]
   refine wpX_take 7 (.int .i64 (f k)) rfl rfl (by kernel_rfl) (fun w1 h1 => by have hc : w1.cell? ⟨w.heap.size, k, none⟩ = some (.int .i64 (f k)) := (p.below h1 p.lt).cellIs (vfn_get _ hkn); go_simp; exact ⟨rfl, Below.refl _ _⟩) ?_
   simp only [Act.put, sIT, sCZ, sCS]
   refine wpX_take 8 (.agg (bigC A)) rfl rfl (by kernel_rfl) (fun w1 h1 => ?_) ?_
   ·go_simp
    refine (AB.out _).mono ?_
    rintro e w2 ⟨rfl, h2⟩
    exact ⟨rfl, h2⟩
   simp only [Act.put, sIT, sCZ, sCS]
   refine wpX_take 9 (.agg (bigC (A * A))) rfl rfl (by kernel_rfl) (fun w1 h1 => ?_) ?_
   ·go_simp
    refine (times_any A A _ HA8.out HA8.out).mono ?_
    rintro e w2 ⟨rfl, h2⟩
    exact ⟨rfl, h2⟩
   simp only [Act.put, sIT, sCZ, sCS]
   refine wpX_take 10 (.agg (bigC (psq f k + A * A))) rfl rfl (by kernel_rfl) (fun w1 h1 => ?_) ?_
   ·go_simp
    refine (add_any _ _ _).mono ?_
    rintro e w2 ⟨rfl, h2⟩
    exact ⟨rfl, h2⟩
   simp only [Act.put, sIT, sCZ, sCS]
   refine wpX_tail (by kernel_rfl) (fun wt ht => ?_)
   simp only [List.drop_succ_cons, List.drop_zero]
   replace hB := hB.trans (ht.mono (by have := p.lt; omega))
   replace p := p.below ht p.lt
   replace r := r.below ht r.lt
   replace s := s.below ht s.lt
   clear ht
   rw [← HS.out]
   go_wp2_with ((refine wpList_store_row rfl _ _ _ rfl _ rfl _ rfl _ _ s (by rw [bigC_size]; kernel_rfl) (by rw [bigC_size, bigC_size]) (fnC_one _) ?_))
   go_roundg (3 - (k + 1))
   case rel => exact ⟨k + 1, by omega, rfl, p.rowOther (by omega) _, r.rowOther (by omega) _, s.row _, Below.setRow hB (by omega) _⟩
   case measure => omega
  ·obtain rfl : k = 3 := by omega
   rw [psq3] at s
   go_wp2_with (first | (refine wpList_load_row rfl _ _ rfl _ rfl _ _ _ _ s Tryz.underlying121 rfl (by rw [bigC_size]; kernel_rfl) ?_) | (refine wpList_store_row rfl _ _ _ rfl _ rfl _ rfl _ _ r (by rw [bigC_size]; kernel_rfl) (by rw [bigC_size, bigC_size]) (fnC_one _) ?_))
   refine bodyPost_ret (results_cell_row rfl _ _ _ _ _ _ _ rfl (r.row _) Tryz.underlying121 rfl (by rw [bigC_size]; kernel_rfl)) rfl ⟨rfl, Below.setRow hB (by omega) _⟩
set_option maxHeartbeats 1000000 in
theorem rabove_any (f : Nat → Int) (m : Int) (w : World) (hk : okV f = true) (hm : I64 m) : Calls Tryz.prog 79 #[.agg (vfn f), .int .i64 m] w fun e w' => e = .returned (.bool (decide (m.natAbs * m.natAbs < sq3 f))) ∧ Below w.heap.size w w' := by
 have SQ := Lib.hid (fun w => rsquares_any f w (okV_I hk))
 have AB := Lib.hid (fun w => abs_any m w hm.1 hm.2)
 obtain ⟨A, hA⟩ : ∃ A, m.natAbs = A := ⟨_, rfl⟩
 rw [hA] at AB ⊢
 have hA8 : A < 65536 ^ 8 := by rw [← hA]; have := hm.1; have := hm.2; omega
 have hP : A * A < 65536 ^ 17 := Nat.lt_of_le_of_lt (Nat.mul_le_mul (show A ≤ 9223372036854775808 by rw [← hA]; have := hm.1; have := hm.2; omega) (show A ≤ 9223372036854775808 by rw [← hA]; have := hm.1; have := hm.2; omega)) (by decide)
 have hS : sq3 f < 65536 ^ 17 := Nat.lt_of_le_of_lt (ok_sq hk) (by decide)
 have LS := Lib.hid (fun w => less_any (A * A) (sq3 f) w hP hS)
 have HA8 := Lib.hid hA8
 clear hA8 hP hS hA hk hm
 generalize sq3 f = S at *
 generalize decide (A * A < S) = R at *
 go_enter Tryz.func79, Tryz.ntmps79
 go_upto_region 1 with (fail)
 have p : blk (w.alloc (.cells (vfn f) 27)) w.heap.size (vfn f) 27 := blk.new _ _ _
 have hB : Below w.heap.size w (w.alloc (.cells (vfn f) 27)) := by go_grown
 generalize w.alloc (.cells (vfn f) 27) = w0 at *
 refine wp_region_Y 99 9 rfl (by kernel_rfl) ?_
 replace p := p.drew
 replace hB : Below w.heap.size w w0.drew := hB.drew
 generalize w0.drew = wo at *
 refine wpY_takeB 0 (.int .i64 m) rfl rfl (by kernel_rfl) (fun w1 => by go_simp; exact ⟨rfl, Below.refl _ _⟩) ?_
 simp only [Act.put, sIT, sCZ, sCS]
 refine wpY_takeA 1 (.agg (bigC A)) rfl rfl (by kernel_rfl) (by kernel_rfl) (fun w1 h1 => ?_) ?_
 ·go_simp
  refine (AB.out _).mono ?_
  rintro e w2 ⟨rfl, h2⟩
  exact ⟨rfl, h2⟩
 simp only [Act.put, sIT, sCZ, sCS]
 refine wpY_takeB 2 (.int .i64 m) rfl rfl (by kernel_rfl) (fun w1 => by go_simp; exact ⟨rfl, Below.refl _ _⟩) ?_
 simp only [Act.put, sIT, sCZ, sCS]
 refine wpY_takeA 3 (.agg (bigC A)) rfl rfl (by kernel_rfl) (by kernel_rfl) (fun w1 h1 => ?_) ?_
 ·go_simp
  refine (AB.out _).mono ?_
  rintro e w2 ⟨rfl, h2⟩
  exact ⟨rfl, h2⟩
 simp only [Act.put, sIT, sCZ, sCS]
 refine wpY_takeA 4 (.agg (bigC (A * A))) rfl rfl (by kernel_rfl) (by kernel_rfl) (fun w1 h1 => ?_) ?_
 ·go_simp
  refine (times_any A A _ HA8.out HA8.out).mono ?_
  rintro e w2 ⟨rfl, h2⟩
  exact ⟨rfl, h2⟩
 simp only [Act.put, sIT, sCZ, sCS]
 refine wpY_takeA 5 (.agg (vfn f)) rfl rfl (by kernel_rfl) (by kernel_rfl) (fun w1 h1 => detR_row _ _ rfl _ rfl _ _ _ (p.below h1 p.lt) Tryz.underlying27 rfl (by rw [vfn_size]; kernel_rfl) rfl) ?_
 simp only [Act.put, sIT, sCZ, sCS]
 refine wpY_takeA 6 (.agg (bigC S)) rfl rfl (by kernel_rfl) (by kernel_rfl) (fun w1 h1 => ?_) ?_
 ·go_simp
  refine (SQ.out _).mono ?_
  rintro e w2 ⟨rfl, h2⟩
  exact ⟨rfl, h2⟩
 simp only [Act.put, sIT, sCZ, sCS]
 refine wpY_takeA 7 (.bool R) rfl rfl (by kernel_rfl) (by kernel_rfl) (fun w1 h1 => ?_) ?_
 ·go_simp
  refine (LS.out _).mono ?_
  rintro e w2 ⟨rfl, h2⟩
  exact ⟨rfl, h2⟩
 simp only [Act.put, sIT, sCZ, sCS]
 refine wpY_takeB 8 (.bool R) rfl rfl (by kernel_rfl) (fun w1 => by go_simp; exact ⟨rfl, Below.refl _ _⟩) ?_
 simp only [Act.put, sIT, sCZ, sCS]
 refine wpY_end (by kernel_rfl) (fun w3 h3 => ?_)
 replace hB := hB.trans (h3.mono (by have := p.lt; omega))
 go_wp2_with (fail)
 go_ret
 exact ⟨rfl, hB⟩
set_option maxHeartbeats 2000000 in
theorem rvlimit_any (f : Nat → Int) (m : Int) (w : World) (hm : I64 m) : Calls Tryz.prog 31 #[.agg (vfn f), .int .i64 m] w fun e w' => e = .returned (.tuple #[.agg (vfn (limF f m)), .int .i64 (limE f m)]) ∧ Below w.heap.size w w' := by
 have V := Lib.hid (fun w => rvalid_any f w)
 obtain ⟨X, hX⟩ : ∃ X, limF f m = X := ⟨_, rfl⟩
 obtain ⟨E, hE⟩ : ∃ E, limE f m = E := ⟨_, rfl⟩
 rw [hX, hE]
 unfold limF at hX
 unfold limE at hE
 obtain ⟨bk, hk⟩ : ∃ b, okV f = b := ⟨_, rfl⟩
 rw [hk] at V
 have HK := Lib.hid hk
 have HX := Lib.hid hX
 have HE := Lib.hid hE
 have HM := Lib.hid hm
 clear hk hX hE hm
 go_enter Tryz.func31, Tryz.ntmps31
 go_upto_region 1 with (fail)
 rw [zero_vec]
 have p : blk ((w.alloc (.cells (vfn f) 27)).alloc (.cells (vfn fun _ => 0) 27)) w.heap.size (vfn f) 27 := (blk.new _ _ _).alloc _
 have r : blk ((w.alloc (.cells (vfn f) 27)).alloc (.cells (vfn fun _ => 0) 27)) (w.heap.size + 1) (vfn fun _ => 0) 27 := blk.new' (by simp)
 have hB : Below w.heap.size w ((w.alloc (.cells (vfn f) 27)).alloc (.cells (vfn fun _ => 0) 27)) := by go_grown
 generalize (w.alloc (.cells (vfn f) 27)).alloc (.cells (vfn fun _ => 0) 27) = w0 at *
 cases bk
 case false =>
  go_wp2_with (first | (refine wpList_load_rowG ?hw _ _ rfl _ rfl _ _ _ _ p Tryz.underlying27 rfl ?hi ?_; (case hw => (first | rfl | (simp [Region.wanted, yielded]; done))); (case hi => (rw [vfn_size]; kernel_rfl))) | (go_at_call 78; with_reducible refine (V.out _).mono ?_; rintro e w1 ⟨rfl, hb⟩; replace hB := hB.trans (hb.mono hB.size); replace p := p.below hb p.lt; replace r := r.below hb r.lt; clear hb) | (rw [zero_vec]; refine wpList_store_row rfl _ _ _ rfl _ rfl _ rfl _ _ r (by rw [vfn_size]; kernel_rfl) (by simp only [vfn_size]) (vfn_one _) ?_))
  refine bodyPost_ret (results_vec rfl _ _ _ _ _ _ _ rfl (r.row (vfn (fun _ => 0))) Tryz.underlying27 rfl (by rw [vfn_size]; kernel_rfl)) rfl ?_; refine ⟨?_, Below.setRow hB (by omega) _⟩
  rw [← HX.out, ← HE.out, if_neg (fun h => by have := h.1; rw [HK.out] at this; cases this), if_neg (fun h => by have := h.1; rw [HK.out] at this; cases this)]; rfl
 by_cases hm0 : m < 0
 ·have d0 : decide (m < 0) = true := decide_eq_true hm0
  have H0 := Lib.hid hm0
  clear hm0
  go_wp2_with (first | (refine wpList_load_rowG ?hw _ _ rfl _ rfl _ _ _ _ p Tryz.underlying27 rfl ?hi ?_; (case hw => (first | rfl | (simp [Region.wanted, yielded]; done))); (case hi => (rw [vfn_size]; kernel_rfl))) | (go_at_call 78; with_reducible refine (V.out _).mono ?_; rintro e w1 ⟨rfl, hb⟩; replace hB := hB.trans (hb.mono hB.size); replace p := p.below hb p.lt; replace r := r.below hb r.lt; clear hb) | (rw [zero_vec]; refine wpList_store_row rfl _ _ _ rfl _ rfl _ rfl _ _ r (by rw [vfn_size]; kernel_rfl) (by simp only [vfn_size]) (vfn_one _) ?_))
  refine bodyPost_ret (results_vec rfl _ _ _ _ _ _ _ rfl (r.row (vfn (fun _ => 0))) Tryz.underlying27 rfl (by rw [vfn_size]; kernel_rfl)) rfl ?_; refine ⟨?_, Below.setRow hB (by omega) _⟩
  rw [← HX.out, ← HE.out, if_neg (fun h => by have := h.2.1; have := H0.out; omega), if_neg (fun h => by have := h.2.1; have := H0.out; omega)]; rfl
 have d0 : decide (m < 0) = false := decide_eq_false hm0
 have H0 := Lib.hid (Int.not_lt.1 hm0)
 clear hm0
 by_cases hm1 : 1099511627776 < m
 ·have d1 : decide (1099511627776 < m) = true := decide_eq_true hm1
  have d2 : decide (m > 1099511627776) = true := decide_eq_true hm1
  have H1 := Lib.hid hm1
  clear hm1
  go_wp2_with (first | (refine wpList_load_rowG ?hw _ _ rfl _ rfl _ _ _ _ p Tryz.underlying27 rfl ?hi ?_; (case hw => (first | rfl | (simp [Region.wanted, yielded]; done))); (case hi => (rw [vfn_size]; kernel_rfl))) | (go_at_call 78; with_reducible refine (V.out _).mono ?_; rintro e w1 ⟨rfl, hb⟩; replace hB := hB.trans (hb.mono hB.size); replace p := p.below hb p.lt; replace r := r.below hb r.lt; clear hb) | (rw [zero_vec]; refine wpList_store_row rfl _ _ _ rfl _ rfl _ rfl _ _ r (by rw [vfn_size]; kernel_rfl) (by simp only [vfn_size]) (vfn_one _) ?_))
  refine bodyPost_ret (results_vec rfl _ _ _ _ _ _ _ rfl (r.row (vfn (fun _ => 0))) Tryz.underlying27 rfl (by rw [vfn_size]; kernel_rfl)) rfl ?_; refine ⟨?_, Below.setRow hB (by omega) _⟩
  rw [← HX.out, ← HE.out, if_neg (fun h => by have := h.2.2; have := H1.out; omega), if_neg (fun h => by have := h.2.2; have := H1.out; omega)]; rfl
 have d1 : decide (1099511627776 < m) = false := decide_eq_false hm1
 have d2 : decide (m > 1099511627776) = false := decide_eq_false hm1
 have H1 := Lib.hid (Int.not_lt.1 hm1)
 clear hm1
 have HL : Hid (okL f m) := ⟨HK.out, H0.out, H1.out⟩
 rw [if_pos HL.out] at HX HE
 obtain ⟨M, hM⟩ : ∃ M, m.natAbs = M := ⟨_, rfl⟩
 have hmM : m = (M : Int) := by have := H0.out; omega
 have A1 := Lib.hid (fun w => rabove_any f m w HK.out HM.out)
 rw [hM] at A1
 have HMM := Lib.hid hmM
 have hab := lst_above HK.out M
 by_cases hl : (lst f : Int) ≤ m
 ·have e1 : decide (M * M < sq3 f) = false := decide_eq_false fun h => by have := hab.2 h; omega
  rw [e1] at A1
  have H3 := Lib.hid hl
  clear e1 hl hab hM hmM
  go_wp2_with (first | (refine wpList_load_rowG ?hw _ _ rfl _ rfl _ _ _ _ p Tryz.underlying27 rfl ?hi ?_; (case hw => (first | rfl | (simp [Region.wanted, yielded]; done))); (case hi => (rw [vfn_size]; kernel_rfl))) | (go_at_call 78; with_reducible refine (V.out _).mono ?_; rintro e w1 ⟨rfl, hb⟩; replace hB := hB.trans (hb.mono hB.size); replace p := p.below hb p.lt; replace r := r.below hb r.lt; clear hb) | (go_at_call 79; with_reducible refine (A1.out _).mono ?_; rintro e w1 ⟨rfl, hb⟩; replace hB := hB.trans (hb.mono hB.size); replace p := p.below hb p.lt; replace r := r.below hb r.lt; clear hb) | (refine wpList_store_row rfl _ _ _ rfl _ rfl _ rfl _ _ r (by rw [vfn_size]; kernel_rfl) (by simp only [vfn_size]) (vfn_one _) ?_))
  refine bodyPost_ret (results_vec rfl _ _ _ _ _ _ _ rfl (r.row (vfn f)) Tryz.underlying27 rfl (by rw [vfn_size]; kernel_rfl)) rfl ?_; refine ⟨?_, Below.setRow hB (by omega) _⟩
  rw [← HX.out, ← HE.out, if_pos H3.out]; rfl
 have hlM : M < lst f := by omega
 have e1 : decide (M * M < sq3 f) = true := decide_eq_true (hab.1 hlM)
 rw [e1] at A1
 have HX2 : Hid (∀ i, X i = towV (f i) M (lst f)) := by show ∀ i, _ = _; intro i; rw [← HX.out, if_neg hl]; unfold limX; rw [hmM]; rfl
 have HLM := Lib.hid hlM
 have HM1 := Lib.hid (show M ≤ 1099511627776 by have := H1.out; omega)
 have AM := Lib.hid (fun w => abs_any m w HM.out.1 HM.out.2)
 rw [hM] at AM
 obtain ⟨N, hN⟩ : ∃ N, lstN f = N := ⟨_, rfl⟩
 obtain ⟨n1, n2, n3'⟩ := lstN_spec HK.out
 have A2 := Lib.hid (fun w => rabove_any f N w HK.out ⟨by omega, by omega⟩)
 have HN := Lib.hid (fun b c w p => rhyp3_any f b c w (okV_I HK.out) p)
 rw [lst_fit HK.out, hN] at HN
 rw [hN] at n1 n2 n3'
 have hNN : (N : Int).natAbs = N := Int.natAbs_natCast N
 rw [hNN] at A2
 generalize fitE (n3 f) = EE at *
 obtain ⟨L, hL⟩ : ∃ L, lst f = L := ⟨_, rfl⟩
 have hLs := lst_small HK.out
 have HLP := Lib.hid (fun i hi => lst_part HK.out i hi)
 rw [hL] at HX2 HLM hLs HLP
 have ANL := Lib.hid (fun w => abs_any (L : Int) w (by omega) (by omega))
 rw [Int.natAbs_natCast] at ANL
 have HL1 := Lib.hid hLs
 unfold lst at hL
 rw [hN] at hL
 have hcase : (decide (N * N < sq3 f) = false ∧ L = N) ∨ (decide (N * N < sq3 f) = true ∧ IntKind.i64.wrap ((N : Int) + 1) = (L : Int)) := by
  by_cases hh : sq3 f = N * N
  ·left; rw [if_pos hh] at hL; exact ⟨decide_eq_false (by omega), by omega⟩
  ·right; rw [if_neg hh] at hL; exact ⟨decide_eq_true (by omega), by rw [IntKind.wrap_i64]; omega⟩
 clear n1 n2 n3' hNN hL hLs hlM e1 hl hab hM hmM hN
 generalize decide (N * N < sq3 f) = bn at *
 rcases hcase with ⟨rfl, rfl⟩ | ⟨rfl, hwN⟩
 all_goals
  go_upto_region 8 with (first | (refine wpList_load_rowG ?hw _ _ rfl _ rfl _ _ _ _ p Tryz.underlying27 rfl ?hi ?_; (case hw => (first | rfl | (simp [Region.wanted, yielded]; done))); (case hi => (rw [vfn_size]; kernel_rfl))) | (go_at_call 78; with_reducible refine (V.out _).mono ?_; rintro e w1 ⟨rfl, hb⟩; replace hB := hB.trans (hb.mono hB.size); replace p := p.below hb p.lt; replace r := r.below hb r.lt; clear hb) | (go_at_call 79; with_reducible refine (A1.out _).mono ?_; rintro e w1 ⟨rfl, hb⟩; replace hB := hB.trans (hb.mono hB.size); replace p := p.below hb p.lt; replace r := r.below hb r.lt; clear hb) | (go_at_call 80; refine (HN.out _ _ _ (rowb_qfn p (fun j hj => vfn_get f hj))).mono ?_; rintro e w1 ⟨rfl, hb⟩; replace hB := hB.trans (hb.mono hB.size); replace p := p.below hb p.lt; replace r := r.below hb r.lt; clear hb) | (go_at_call 79; with_reducible refine (A2.out _).mono ?_; rintro e w1 ⟨rfl, hb⟩; replace hB := hB.trans (hb.mono hB.size); replace p := p.below hb p.lt; replace r := r.below hb r.lt; clear hb))
  go_wp2_with (fail)
  go_loopg [8] 3 (fun g_ iv wr => ∃ k : Nat, g_ + k = 3 ∧ iv = .int .i64 k ∧ blk wr w.heap.size (vfn (fun q => if q < k then X q else f q)) 27 ∧ blk wr (w.heap.size + 1) (vfn fun _ => 0) 27 ∧ Below w.heap.size w wr)
  case atStart => exact ⟨0, rfl, rfl, by rw [show vfn (fun q => if q < 0 then X q else f q) = vfn f from vfn_congr fun q _ => by simp]; exact p, r, hB⟩
  case round =>
   clear p r hB
   obtain ⟨k, hk, rfl, p, r, hB⟩ := hrel
   by_cases hkn : k < 3
   ·have hdk : decide ((k : Int) < 3) = true := decide_eq_true (by omega)
    have hdk' : decide (k < 3) = true := decide_eq_true hkn
    have hw3 : IntKind.i64.wrap ((k : Int) + 1) = ((k + 1 : Nat) : Int) := by rw [IntKind.wrap_i64]; omega
    have hk3 : (k : Int) < 3 := by omega
    have hfi := okV_I HK.out k hkn
    have AK := Lib.hid (fun w => abs_any (f k) w hfi.1 hfi.2)
    have hx2 := HX2.out k
    unfold towV at hx2
    obtain ⟨z, hz⟩ : ∃ z, f k = z := ⟨_, rfl⟩
    have hAL := HLP.out k hkn
    rw [hz] at AK hx2 hfi hAL
    obtain ⟨A, hA⟩ : ∃ A, z.natAbs = A := ⟨_, rfl⟩
    rw [hA] at AK hx2 hAL
    have hq := tow_le (m := M) (by have := HLM.out; omega) hAL
    have QT := Lib.hid (fun w => quotient_any (A * M) L w (Nat.lt_of_le_of_lt (Nat.mul_le_mul (Nat.le_trans hAL HL1.out) HM1.out) (by decide)) (by have := HLM.out; omega) (by have := HL1.out; omega))
    have HA8 := Lib.hid (show A < 65536 ^ 8 by have := HL1.out; omega)
    have HM8 := Lib.hid (show M < 65536 ^ 8 by have := HM1.out; omega)
    obtain ⟨Q, hQ⟩ : ∃ Q, A * M / L = Q := ⟨_, rfl⟩
    rw [hQ] at QT hx2 hq
    obtain ⟨bz, hbz⟩ : ∃ b, decide (z < 0) = b := ⟨_, rfl⟩
    have SG := Lib.hid (fun w => rsigned_any Q bz w (by have := HM1.out; omega))
    have hsg : sgn bz Q = X k := by
     rw [hx2, ← hbz]
     unfold sgn
     by_cases h : z < 0
     ·simp [h]
     ·simp [h]
    have hxb : I64 (X k) := by
     have := HM1.out
     rw [hx2]; constructor <;> split <;> omega
    have hfx := fit_of hxb.1 hxb.2
    rw [hsg, hfx.1, hfx.2] at SG
    have HZ := Lib.hid hz
    clear hx2 hfi hAL hq hsg hxb hfx hz hA hQ
    have ck : wr.cell? ⟨w.heap.size, k, none⟩ = some (.int .i64 z) := (p.cellIs (vfn_get _ hkn)).trans (by simp [HZ.out])
    go_upto_region 12 with (first | (go_at_call 83; with_reducible refine (AK.out _).mono ?_; rintro e w1 ⟨rfl, hb⟩; replace hB := hB.trans (hb.mono hB.size); replace p := p.below hb p.lt; replace r := r.below hb r.lt; clear hb) | (go_at_call 83; with_reducible refine (AM.out _).mono ?_; rintro e w1 ⟨rfl, hb⟩; replace hB := hB.trans (hb.mono hB.size); replace p := p.below hb p.lt; replace r := r.below hb r.lt; clear hb) | (go_at_call 83; with_reducible refine (ANL.out _).mono ?_; rintro e w1 ⟨rfl, hb⟩; replace hB := hB.trans (hb.mono hB.size); replace p := p.below hb p.lt; replace r := r.below hb r.lt; clear hb) | (go_at_call 82; with_reducible refine (times_any A M _ HA8.out HM8.out).mono ?_; rintro e w1 ⟨rfl, hb⟩; replace hB := hB.trans (hb.mono hB.size); replace p := p.below hb p.lt; replace r := r.below hb r.lt; clear hb) | (go_at_call 81; with_reducible refine (QT.out _).mono ?_; rintro e w1 ⟨rfl, hb⟩; replace hB := hB.trans (hb.mono hB.size); replace p := p.below hb p.lt; replace r := r.below hb r.lt; clear hb) | (rw [zero_eq_big]; refine wpList_store_row rfl _ _ _ rfl _ rfl _ rfl _ _ (blk.new _ _ _) (by rw [bigC_size]; kernel_rfl) (by rw [bigC_size, bigC_size]) (fnC_one _) ?_))
    replace p := (p.alloc (.cells (bigC 0) 121)).rowOther (Nat.ne_of_lt p.lt) (bigC Q)
    replace r := (r.alloc (.cells (bigC 0) 121)).rowOther (Nat.ne_of_lt r.lt) (bigC Q)
    have s := (blk.new w1 (bigC 0) 121).row (bigC Q)
    replace hB := Below.setRow (hB.alloc hB.size (.cells (bigC 0) 121)) (g := w1.heap.size) hB.size (bigC Q)
    generalize (w1.alloc (.cells (bigC 0) 121)).setRow w1.heap.size (bigC Q) = w8 at *
    generalize w1.heap.size = sb at *
    clear ck
    refine wp_region_Y 11 12 rfl (by kernel_rfl) ?_
    replace p := p.drew
    replace r := r.drew
    replace s := s.drew
    replace hB : Below w.heap.size w w8.drew := hB.drew
    generalize w8.drew = wo at *
    refine wpY_takeB 0 (.int .i64 k) rfl rfl (by kernel_rfl) (fun w1 => by go_simp; exact ⟨rfl, Below.refl _ _⟩) ?_
    simp only [Act.put, sIT, sCZ, sCS]
    refine wpY_takeB 1 (.int .i64 k) rfl rfl (by kernel_rfl) (fun w1 => by go_simp; exact ⟨rfl, Below.refl _ _⟩) ?_
    simp only [Act.put, sIT, sCZ, sCS]
    refine wpY_takeB 2 (.pointer (some ⟨w.heap.size, k, none⟩)) rfl rfl (by kernel_rfl) (fun w1 => by go_simp; first | exact ⟨rfl, Below.refl _ _⟩ | (rw [if_pos hk3]; exact ⟨rfl, Below.refl _ _⟩)) ?_
    simp only [Act.put, sIT, sCZ, sCS]
    refine wpY_takeA 3 (.int .i64 z) rfl rfl (by kernel_rfl) (by kernel_rfl) (fun w1 h1 => by have hc : w1.cell? ⟨w.heap.size, k, none⟩ = some (.int .i64 z) := ((p.below h1 p.lt).cellIs (vfn_get _ hkn)).trans (by simp [HZ.out]); go_simp; exact ⟨rfl, Below.refl _ _⟩) ?_
    simp only [Act.put, sIT, sCZ, sCS]
    refine wpY_takeB 4 (.bool bz) rfl rfl (by kernel_rfl) (fun w1 => by go_simp; exact ⟨by first | rfl | (rw [hbz]), Below.refl _ _⟩) ?_
    simp only [Act.put, sIT, sCZ, sCS]
    refine wpY_takeA 5 (.agg (bigC Q)) rfl rfl (by kernel_rfl) (by kernel_rfl) (fun w1 h1 => detR_row _ _ rfl _ rfl _ _ _ (s.below h1 s.lt) Tryz.underlying121 rfl (by rw [bigC_size]; kernel_rfl) rfl) ?_
    simp only [Act.put, sIT, sCZ, sCS]
    refine wpY_takeA 6 (.tuple #[.int .i64 (X k), .int .i64 0]) rfl rfl (by kernel_rfl) (by kernel_rfl) (fun w1 h1 => ?_) ?_
    ·go_simp
     refine (SG.out _).mono ?_
     rintro e w2 ⟨rfl, h2⟩
     exact ⟨rfl, h2⟩
    simp only [Act.put, sIT, sCZ, sCS]
    refine wpY_takeB 7 (.tuple #[.int .i64 (X k), .int .i64 0]) rfl rfl (by kernel_rfl) (fun w1 => by go_simp; exact ⟨rfl, Below.refl _ _⟩) ?_
    simp only [Act.put, sIT, sCZ, sCS]
    refine wpY_takeB 8 (.int .i64 (X k)) rfl rfl (by kernel_rfl) (fun w1 => by go_simp; exact ⟨rfl, Below.refl _ _⟩) ?_
    simp only [Act.put, sIT, sCZ, sCS]
    refine wpY_takeB 9 (.int .i64 0) rfl rfl (by kernel_rfl) (fun w1 => by go_simp; exact ⟨rfl, Below.refl _ _⟩) ?_
    simp only [Act.put, sIT, sCZ, sCS]
    refine wpY_takeB 10 (.pointer (some ⟨w.heap.size, k, none⟩)) rfl rfl (by kernel_rfl) (fun w1 => by go_simp; first | exact ⟨rfl, Below.refl _ _⟩ | (rw [if_pos hk3]; exact ⟨rfl, Below.refl _ _⟩)) ?_
    simp only [Act.put, sIT, sCZ, sCS]
    refine wpY_one rfl rfl (by kernel_rfl) (fun wt ht => ?_)
    replace hB := hB.trans (ht.mono (by have := p.lt; omega))
    replace p := p.below ht p.lt
    replace r := r.below ht r.lt
    clear ht s
    have ck : wt.cell? ⟨w.heap.size, k, none⟩ = some (.int .i64 z) := (p.cellIs (vfn_get _ hkn)).trans (by simp [HZ.out])
    have fz : wt.frozen? ⟨w.heap.size, k, none⟩ = false := p.free _
    go_simp
    clear ck fz
    replace p : blk (wt.setCell ⟨w.heap.size, k, none⟩ (.int .i64 (X k))) w.heap.size (vfn (fun q => if q < k + 1 then X q else f q)) 27 := p.set' (vfn_set hkn (by simp) (fun q hq hne => by
     have : (q < k + 1) = (q < k) := propext (by omega)
     simp only [this]))
    replace r := r.setOther (a := ⟨w.heap.size, k, none⟩) (by simp) (.int .i64 (X k))
    replace hB := hB.setCell (p := ⟨w.heap.size, k, none⟩) (by simp) (.int .i64 (X k))
    generalize wt.setCell ⟨w.heap.size, k, none⟩ (.int .i64 (X k)) = w7 at *
    refine wpY_end (by kernel_rfl) (fun w9 h9 => ?_)
    replace hB := hB.trans (h9.mono (by have := p.lt; omega))
    replace p := p.below h9 p.lt
    replace r := r.below h9 r.lt
    clear h9
    go_wp2_with (fail)
    go_roundg (3 - (k + 1))
    case rel => exact ⟨k + 1, by omega, rfl, p, r, hB⟩
    case measure => omega
   ·obtain rfl : k = 3 := by omega
    have e4 : vfn (fun q => if q < 3 then X q else f q) = vfn X := vfn_congr fun q hq => by simp [hq]
    rw [e4] at p
    go_wp2_with (first | (refine wpList_load_rowG ?hw _ _ rfl _ rfl _ _ _ _ p Tryz.underlying27 rfl ?hi ?_; (case hw => (first | rfl | (simp [Region.wanted, yielded]; done))); (case hi => (rw [vfn_size]; kernel_rfl))) | (refine wpList_store_row rfl _ _ _ rfl _ rfl _ rfl _ _ r (by rw [vfn_size]; kernel_rfl) (by simp only [vfn_size]) (vfn_one _) ?_))
    refine bodyPost_ret (results_vec rfl _ _ _ _ _ _ _ rfl (r.row (vfn X)) Tryz.underlying27 rfl (by rw [vfn_size]; kernel_rfl)) rfl ?_; refine ⟨?_, Below.setRow hB (by omega) _⟩
    rw [← HE.out]; rfl
end Go.Proofs.YtkmelddejdikgaaGreat
