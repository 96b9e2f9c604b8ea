/-
  Shortened vectors: Limit of the specification.
-/
import Derived.Test.YtjnocbjngojigaaVLimP
set_option linter.unusedSimpArgs false
set_option linter.unusedVariables false
namespace Go.Proofs.Ytjnocbjngojigaa
open Go.RowKit PM Dt
def psq (f : Nat → Int) : Nat → Nat
  | 0 => 0
  | k + 1 => psq f k + (f k).natAbs * (f k).natAbs
theorem psq3 (f : Nat → Int) : psq f 3 = sq3 f := by
  unfold sq3
  rw [sqs_cons, sqs_cons, sqs_cons, sqs_nil]
  simp only [psq]
  omega
set_option maxRecDepth 100000 in
set_option maxHeartbeats 1000000 in
theorem rsquares_any (f : Nat → Int) (w : World) (hI : ∀ i, i < 3 → I64 (f i)) : Calls Try.prog 137 #[.agg (vfn f)] w fun e w' => e = .returned (.agg (bigC (sq3 f))) ∧ Below w.heap.size w w' := by
  have HI := Lib.hid hI
  clear hI
  go_enter Try.func137, Try.ntmps137
  go_upto_region 2 with (fail)
  simp only [zero_eq_big]
  have p : blk (((w.alloc (.cells (vfn f) 25)).alloc (.cells (bigC 0) 163)).alloc (.cells (bigC 0) 163)) w.heap.size (vfn f) 25 := ((blk.new _ _ _).alloc _).alloc _
  have r : blk (((w.alloc (.cells (vfn f) 25)).alloc (.cells (bigC 0) 163)).alloc (.cells (bigC 0) 163)) (w.heap.size + 1) (bigC 0) 163 := (blk.new' (by simp)).alloc _
  have s : blk (((w.alloc (.cells (vfn f) 25)).alloc (.cells (bigC 0) 163)).alloc (.cells (bigC 0) 163)) (w.heap.size + 2) (bigC 0) 163 := blk.new' (by simp)
  have hB : Below w.heap.size w (((w.alloc (.cells (vfn f) 25)).alloc (.cells (bigC 0) 163)).alloc (.cells (bigC 0) 163)) := by go_grown
  generalize ((w.alloc (.cells (vfn f) 25)).alloc (.cells (bigC 0) 163)).alloc (.cells (bigC 0) 163) = w0 at *
  go_wp2_with (fail)
  go_loopg [4] 3 (fun g_ iv wr => ∃ k : Nat, g_ + k = 3 ∧ iv = .int .i64 k ∧ blk wr w.heap.size (vfn f) 25 ∧ blk wr (w.heap.size + 1) (bigC 0) 163 ∧ blk wr (w.heap.size + 2) (bigC (psq f k)) 163 ∧ Below w.heap.size w wr)
  case atStart => exact ⟨0, rfl, rfl, p, r, s, hB⟩
  case round =>
    clear p r s hB
    obtain ⟨k, hk, rfl, p, r, s, hB⟩ := hrel
    by_cases hkn : k < 3
    · have hdk : decide ((k : Int) < 3) = true := decide_eq_true (by omega)
      have hdk' : decide (k < 3) = true := decide_eq_true hkn
      have hk3 : (k : Int) < 3 := by omega
      have hw3 : IntKind.i64.wrap ((k : Int) + 1) = ((k + 1 : Nat) : Int) := by rw [IntKind.wrap_i64]; omega
      have hi := HI.out k hkn
      have AB := Lib.hid (fun w => abs_any (f k) w hi.1 hi.2)
      obtain ⟨A, hA⟩ : ∃ A, (f k).natAbs = A := ⟨_, rfl⟩
      have hs : psq f (k + 1) = psq f k + A * A := by rw [← hA]; rfl
      rw [hA] at AB
      have HA8 := Lib.hid (show A < 65536 ^ 8 by rw [← hA]; have := hi.1; have := hi.2; omega)
      have HS := Lib.hid hs
      clear hs hA hi
      go_upto_region 5 with (fail)
      refine wp_region_X 11 (by kernel_rfl) (by kernel_rfl) ?_
      replace p := p.drew
      replace r := r.drew
      replace s := s.drew
      replace hB : Below w.heap.size w wr.drew := hB.drew
      generalize wr.drew = wo at *
      refine wpX_take 0 (.agg (bigC (psq f k))) rfl rfl (by kernel_rfl) (fun w1 h1 => detR_row _ _ rfl _ rfl _ _ _ (s.below h1 s.lt) Try.underlying163 rfl (by rw [bigC_size]; kernel_rfl) rfl) ?_
      simp only [Act.put, List.setIfInBounds_toArray, List.set_cons_zero, List.set_cons_succ]
      refine wpX_take 1 (.int .i64 k) rfl rfl (by kernel_rfl) (fun w1 h1 => by go_simp; exact ⟨rfl, Below.refl _ _⟩) ?_
      simp only [Act.put, List.setIfInBounds_toArray, List.set_cons_zero, List.set_cons_succ]
      refine wpX_take 2 (.pointer (some ⟨w.heap.size, k, none⟩)) rfl rfl (by kernel_rfl) (fun w1 h1 => by go_simp; first | exact ⟨rfl, Below.refl _ _⟩ | (rw [if_pos hk3]; exact ⟨rfl, Below.refl _ _⟩)) ?_
      simp only [Act.put, List.setIfInBounds_toArray, List.set_cons_zero, List.set_cons_succ]
      refine wpX_take 3 (.int .i64 (f k)) rfl rfl (by kernel_rfl) (fun w1 h1 => by have hc : w1.cell? ⟨w.heap.size, k, none⟩ = some (.int .i64 (f k)) := (p.below h1 p.lt).cellIs (vfn_get _ hkn); go_simp; exact ⟨rfl, Below.refl _ _⟩) ?_
      simp only [Act.put, List.setIfInBounds_toArray, List.set_cons_zero, List.set_cons_succ]
      refine wpX_take 4 (.agg (bigC A)) rfl rfl (by kernel_rfl) (fun w1 h1 => ?_) ?_
      · go_simp
        refine (AB.out _).mono ?_
        rintro e w2 ⟨rfl, h2⟩
        exact ⟨rfl, h2⟩
      simp only [Act.put, List.setIfInBounds_toArray, List.set_cons_zero, List.set_cons_succ]
      refine wpX_take 5 (.int .i64 k) rfl rfl (by kernel_rfl) (fun w1 h1 => by go_simp; exact ⟨rfl, Below.refl _ _⟩) ?_
      simp only [Act.put, List.setIfInBounds_toArray, List.set_cons_zero, List.set_cons_succ]
      refine wpX_take 6 (.pointer (some ⟨w.heap.size, k, none⟩)) rfl rfl (by kernel_rfl) (fun w1 h1 => by go_simp; first | exact ⟨rfl, Below.refl _ _⟩ | (rw [if_pos hk3]; exact ⟨rfl, Below.refl _ _⟩)) ?_
      simp only [Act.put, List.setIfInBounds_toArray, List.set_cons_zero, List.set_cons_succ]
      refine wpX_take 7 (.int .i64 (f k)) rfl rfl (by kernel_rfl) (fun w1 h1 => by have hc : w1.cell? ⟨w.heap.size, k, none⟩ = some (.int .i64 (f k)) := (p.below h1 p.lt).cellIs (vfn_get _ hkn); go_simp; exact ⟨rfl, Below.refl _ _⟩) ?_
      simp only [Act.put, List.setIfInBounds_toArray, List.set_cons_zero, List.set_cons_succ]
      refine wpX_take 8 (.agg (bigC A)) rfl rfl (by kernel_rfl) (fun w1 h1 => ?_) ?_
      · go_simp
        refine (AB.out _).mono ?_
        rintro e w2 ⟨rfl, h2⟩
        exact ⟨rfl, h2⟩
      simp only [Act.put, List.setIfInBounds_toArray, List.set_cons_zero, List.set_cons_succ]
      refine wpX_take 9 (.agg (bigC (A * A))) rfl rfl (by kernel_rfl) (fun w1 h1 => ?_) ?_
      · go_simp
        refine (times_any A A _ HA8.out HA8.out).mono ?_
        rintro e w2 ⟨rfl, h2⟩
        exact ⟨rfl, h2⟩
      simp only [Act.put, List.setIfInBounds_toArray, List.set_cons_zero, List.set_cons_succ]
      refine wpX_take 10 (.agg (bigC (psq f k + A * A))) rfl rfl (by kernel_rfl) (fun w1 h1 => ?_) ?_
      · go_simp
        refine (add_any _ _ _).mono ?_
        rintro e w2 ⟨rfl, h2⟩
        exact ⟨rfl, h2⟩
      simp only [Act.put, List.setIfInBounds_toArray, List.set_cons_zero, List.set_cons_succ]
      refine wpX_tail (by kernel_rfl) (fun wt ht => ?_)
      simp only [List.drop_succ_cons, List.drop_zero]
      replace hB := hB.trans (ht.mono (by have := p.lt; omega))
      replace p := p.below ht p.lt
      replace r := r.below ht r.lt
      replace s := s.below ht s.lt
      clear ht
      rw [← HS.out]
      go_wp2_with ((refine wpList_store_row rfl _ _ _ rfl _ rfl _ rfl _ _ s (by rw [bigC_size]; kernel_rfl) (by rw [bigC_size, bigC_size]) (fnC_one _) ?_))
      go_roundg (3 - (k + 1))
      case rel => exact ⟨k + 1, by omega, rfl, p.rowOther (by omega) _, r.rowOther (by omega) _, s.row _, Below.setRow hB (by omega) _⟩
      case measure => omega
    · obtain rfl : k = 3 := by omega
      rw [psq3] at s
      go_wp2_with (first | (refine wpList_load_row rfl _ _ rfl _ rfl _ _ _ _ s Try.underlying163 rfl (by rw [bigC_size]; kernel_rfl) ?_) | (refine wpList_store_row rfl _ _ _ rfl _ rfl _ rfl _ _ r (by rw [bigC_size]; kernel_rfl) (by rw [bigC_size, bigC_size]) (fnC_one _) ?_))
      refine bodyPost_ret (results_cell_row rfl _ _ _ _ _ _ _ rfl (r.row _) Try.underlying163 rfl (by rw [bigC_size]; kernel_rfl)) rfl ⟨rfl, Below.setRow hB (by omega) _⟩
set_option maxRecDepth 100000 in
set_option maxHeartbeats 1000000 in
theorem rabove_any (f : Nat → Int) (m : Int) (w : World) (hk : okV f = true) (hm : I64 m) : Calls Try.prog 122 #[.agg (vfn f), .int .i64 m] w fun e w' => e = .returned (.bool (decide (m.natAbs * m.natAbs < sq3 f))) ∧ Below w.heap.size w w' := by
  have SQ := Lib.hid (fun w => rsquares_any f w (okV_I hk))
  have AB := Lib.hid (fun w => abs_any m w hm.1 hm.2)
  obtain ⟨A, hA⟩ : ∃ A, m.natAbs = A := ⟨_, rfl⟩
  rw [hA] at AB ⊢
  have hA8 : A < 65536 ^ 8 := by rw [← hA]; have := hm.1; have := hm.2; omega
  have hP : A * A < 65536 ^ 17 := Nat.lt_of_le_of_lt (Nat.mul_le_mul (show A ≤ 9223372036854775808 by rw [← hA]; have := hm.1; have := hm.2; omega) (show A ≤ 9223372036854775808 by rw [← hA]; have := hm.1; have := hm.2; omega)) (by decide)
  have hS : sq3 f < 65536 ^ 17 := Nat.lt_of_le_of_lt (ok_sq hk) (by decide)
  have LS := Lib.hid (fun w => less_any (A * A) (sq3 f) w hP hS)
  have HA8 := Lib.hid hA8
  clear hA8 hP hS hA hk hm
  generalize sq3 f = S at *
  generalize decide (A * A < S) = R at *
  go_enter Try.func122, Try.ntmps122
  go_upto_region 1 with (fail)
  have p : blk (w.alloc (.cells (vfn f) 25)) w.heap.size (vfn f) 25 := blk.new _ _ _
  have hB : Below w.heap.size w (w.alloc (.cells (vfn f) 25)) := by go_grown
  generalize w.alloc (.cells (vfn f) 25) = w0 at *
  refine wp_region_Y 99 9 rfl (by kernel_rfl) ?_
  replace p := p.drew
  replace hB : Below w.heap.size w w0.drew := hB.drew
  generalize w0.drew = wo at *
  refine wpY_takeB 0 (.int .i64 m) rfl rfl (by kernel_rfl) (fun w1 => by go_simp; exact ⟨rfl, Below.refl _ _⟩) ?_
  simp only [Act.put, List.setIfInBounds_toArray, List.set_cons_zero, List.set_cons_succ]
  refine wpY_takeA 1 (.agg (bigC A)) rfl rfl (by kernel_rfl) (by kernel_rfl) (fun w1 h1 => ?_) ?_
  · go_simp
    refine (AB.out _).mono ?_
    rintro e w2 ⟨rfl, h2⟩
    exact ⟨rfl, h2⟩
  simp only [Act.put, List.setIfInBounds_toArray, List.set_cons_zero, List.set_cons_succ]
  refine wpY_takeB 2 (.int .i64 m) rfl rfl (by kernel_rfl) (fun w1 => by go_simp; exact ⟨rfl, Below.refl _ _⟩) ?_
  simp only [Act.put, List.setIfInBounds_toArray, List.set_cons_zero, List.set_cons_succ]
  refine wpY_takeA 3 (.agg (bigC A)) rfl rfl (by kernel_rfl) (by kernel_rfl) (fun w1 h1 => ?_) ?_
  · go_simp
    refine (AB.out _).mono ?_
    rintro e w2 ⟨rfl, h2⟩
    exact ⟨rfl, h2⟩
  simp only [Act.put, List.setIfInBounds_toArray, List.set_cons_zero, List.set_cons_succ]
  refine wpY_takeA 4 (.agg (bigC (A * A))) rfl rfl (by kernel_rfl) (by kernel_rfl) (fun w1 h1 => ?_) ?_
  · go_simp
    refine (times_any A A _ HA8.out HA8.out).mono ?_
    rintro e w2 ⟨rfl, h2⟩
    exact ⟨rfl, h2⟩
  simp only [Act.put, List.setIfInBounds_toArray, List.set_cons_zero, List.set_cons_succ]
  refine wpY_takeA 5 (.agg (vfn f)) rfl rfl (by kernel_rfl) (by kernel_rfl) (fun w1 h1 => detR_row _ _ rfl _ rfl _ _ _ (p.below h1 p.lt) Try.underlying25 rfl (by rw [vfn_size]; kernel_rfl) rfl) ?_
  simp only [Act.put, List.setIfInBounds_toArray, List.set_cons_zero, List.set_cons_succ]
  refine wpY_takeA 6 (.agg (bigC S)) rfl rfl (by kernel_rfl) (by kernel_rfl) (fun w1 h1 => ?_) ?_
  · go_simp
    refine (SQ.out _).mono ?_
    rintro e w2 ⟨rfl, h2⟩
    exact ⟨rfl, h2⟩
  simp only [Act.put, List.setIfInBounds_toArray, List.set_cons_zero, List.set_cons_succ]
  refine wpY_takeA 7 (.bool R) rfl rfl (by kernel_rfl) (by kernel_rfl) (fun w1 h1 => ?_) ?_
  · go_simp
    refine (LS.out _).mono ?_
    rintro e w2 ⟨rfl, h2⟩
    exact ⟨rfl, h2⟩
  simp only [Act.put, List.setIfInBounds_toArray, List.set_cons_zero, List.set_cons_succ]
  refine wpY_takeB 8 (.bool R) rfl rfl (by kernel_rfl) (fun w1 => by go_simp; exact ⟨rfl, Below.refl _ _⟩) ?_
  simp only [Act.put, List.setIfInBounds_toArray, List.set_cons_zero, List.set_cons_succ]
  refine wpY_end (by kernel_rfl) (fun w3 h3 => ?_)
  replace hB := hB.trans (h3.mono (by have := p.lt; omega))
  go_wp2_with (fail)
  go_ret
  exact ⟨rfl, hB⟩
end Go.Proofs.Ytjnocbjngojigaa
