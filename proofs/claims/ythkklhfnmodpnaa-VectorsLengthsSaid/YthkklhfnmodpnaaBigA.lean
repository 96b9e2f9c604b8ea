/-
  The sum, the half and the comparison of numbers of 17 digits (package perigeeref01).
-/
import Derived.Test.YthkklhfnmodpnaaBase
set_option linter.unusedSimpArgs false
set_option linter.unusedVariables false
namespace Go.Proofs.Ythkklhfnmodpnaa
open Go.RowKit PM

def mixA (n m k : Nat) : Nat → Nat := fun i => if i < k then dg (n + m) i else dg n i
set_option maxRecDepth 100000 in
set_option maxHeartbeats 400000 in
theorem add_any (n m : Nat) (w : World)  :
    Calls Try.prog 110 #[.agg (bigC n), .agg (bigC m)] w fun e w' => e = .returned (.agg (bigC (n + m))) ∧ Below w.heap.size w w' := by
  go_enter Try.func110, Try.ntmps110
  go_wp2_with (fail)
  go_loopw [5, 6] (fun c i wr => ∃ k : Nat, k ≤ 17 ∧ i = .int .i64 k ∧ c = .int .u64 (carry n m k : Nat) ∧ blk wr w.heap.size (fnC (mixA n m k)) 76 ∧ blk wr (w.heap.size + 1) (bigC m) 76 ∧ blk wr (w.heap.size + 1 + 1) (bigC 0) 76 ∧ Below w.heap.size w wr) (fun _ i _ => 17 - (intOf i).toNat)
  case atStart =>
    refine ⟨0, by omega, rfl, by rw [carry_zero]; rfl, ?_, ?_, ?_, by go_grown⟩
    · rw [show mixA n m 0 = dg n from funext fun i => by simp [mixA]]
      exact ((blk.new _ _ _).alloc _).alloc _
    · exact (blk.new' (by simp)).alloc _
    · rw [zero_eq_big]; exact blk.new' (by simp)
  case round =>
    obtain ⟨k, hk, rfl, rfl, ha, hb, hr, hB⟩ := hrel
    by_cases hlt : k < 17
    · have ca : wr.cell? ⟨w.heap.size, k, none⟩ = some (.int .u64 (dg n k : Nat)) := ha.cellIs (by rw [fnC_get _ hlt]; simp [mixA])
      have cb : wr.cell? ⟨w.heap.size + 1, k, none⟩ = some (.int .u64 (dg m k : Nat)) := hb.cellIs (fnC_get _ hlt)
      have fa : wr.frozen? ⟨w.heap.size, k, none⟩ = false := ha.free _
      have hc1 := carry_le n m k
      have hd1 := dg_lt n k
      have hd2 := dg_lt m k
      go_wp2_with (fail)
      go_quiet (fail)
      go_wp2_with (fail)
      go_roundw
      case rel =>
        refine ⟨k + 1, by omega, by go_num, ?_, ?_, (hb.drewN _).setOther (by simp) _, (hr.drewN _).setOther (by simp; omega) _, ?_⟩
        · rw [← add_carry]; simp
        · refine (ha.drewN _).set' (fnC_set hlt ?_ ?_)
          · simp only [mixA, if_pos (Nat.lt_succ_self k), ← add_digit]; simp
          · intro j _ hj; simp only [mixA]; split <;> split <;> first | rfl | omega
        · exact (below_drewN hB _).setCell (by simp) _
      case measure => simp [intOf]; omega
    · obtain rfl : k = 17 := by omega
      have hs := fnC_size (mixA n m 17)
      have H1 := Lib.hid hs
      clear hs
      go_wp2_with (first | (refine wpList_load_row rfl _ _ rfl _ rfl _ _ _ _ ha Try.underlying76 rfl (by rw [H1.out]; kernel_rfl) ?_) | (refine wpList_store_row rfl _ _ _ rfl _ rfl _ rfl _ _ hr (by rw [H1.out]; kernel_rfl) (by rw [H1.out, bigC_size]) (fnC_one _) ?_))
      refine bodyPost_ret (results_cell_row rfl _ _ _ _ _ _ _ rfl (hr.row _) Try.underlying76 rfl (by rw [H1.out]; kernel_rfl)) rfl ⟨?_, Below.setRow hB (by omega) _⟩
      rw [show fnC (mixA n m 17) = bigC (n + m) from fnC_congr fun i hi => by simp [mixA, hi]]
def mixH (n k : Nat) : Nat → Nat := fun i => if i < k then dg (n / 2) i else dg n i
set_option maxRecDepth 100000 in
set_option maxHeartbeats 400000 in
theorem half_any (n : Nat) (w : World) (hn : n < 65536 ^ 17) :
    Calls Try.prog 119 #[.agg (bigC n)] w fun e w' => e = .returned (.agg (bigC (n / 2))) ∧ Below w.heap.size w w' := by
  have HN := Lib.hid hn
  clear hn
  go_enter Try.func119, Try.ntmps119
  go_wp2_with (fail)
  go_loopw [3] (fun i wr => ∃ k : Nat, k ≤ 17 ∧ i = .int .i64 k ∧ blk wr w.heap.size (fnC (mixH n k)) 76 ∧ blk wr (w.heap.size + 1) (bigC 0) 76 ∧ Below w.heap.size w wr) (fun i _ => 17 - (intOf i).toNat)
  case atStart =>
    refine ⟨0, by omega, rfl, ?_, ?_, by go_grown⟩
    · rw [show mixH n 0 = dg n from funext fun i => by simp [mixH]]
      exact (blk.new _ _ _).alloc _
    · rw [zero_eq_big]; exact blk.new' (by simp)
  case round =>
    obtain ⟨k, hk, rfl, ha, hr, hB⟩ := hrel
    by_cases hlt : k < 17
    · have ca : wr.cell? ⟨w.heap.size, k, none⟩ = some (.int .u64 (dg n k : Nat)) := ha.cellIs (by rw [fnC_get _ hlt]; simp [mixH])
      have fa : wr.frozen? ⟨w.heap.size, k, none⟩ = false := ha.free _
      have hd1 := dg_lt n k
      have hd2 := dg_lt n (k + 1)
      by_cases hlt2 : k < 16
      · have cb : wr.cell? ⟨w.heap.size, k + 1, none⟩ = some (.int .u64 (dg n (k + 1) : Nat)) := ha.cellIs (by rw [fnC_get _ (by omega)]; simp only [mixH, if_neg (show ¬ k + 1 < k by omega)])
        go_wp2_with (fail)
        go_region
        go_wp2_with (fail)
        go_roundw
        case rel =>
          refine ⟨k + 1, by omega, by go_num, ?_, ((hr.setOther (by simp) _).setOther (by simp) _).drew, ((hB.setCell (by simp) _).setCell (by simp) _).drew⟩
          refine (ha.set _ _).set' ?_
          rw [Array.setIfInBounds_setIfInBounds]
          refine fnC_set hlt ?_ ?_
          · simp only [mixH, if_pos (Nat.lt_succ_self k), ← half_digit]; omega
          · intro j _ hj; simp only [mixH]; split <;> split <;> first | rfl | omega
        case measure => simp [intOf] <;> omega
      · go_wp2_with (fail)
        go_roundw
        case rel =>
          refine ⟨k + 1, by omega, by go_num, ?_, hr.setOther (by simp) _, hB.setCell (by simp) _⟩
          refine ha.set' (fnC_set hlt ?_ ?_)
          · obtain rfl : k = 16 := by omega
            simp only [mixH, if_pos (Nat.lt_succ_self 16), ← half_digit]
            rw [dg_high HN.out (Nat.le_refl 17)]; omega
          · intro j _ hj; simp only [mixH]; split <;> split <;> first | rfl | omega
        case measure => simp [intOf] <;> omega
    · obtain rfl : k = 17 := by omega
      have hs := fnC_size (mixH n 17)
      have H1 := Lib.hid hs
      clear hs
      go_wp2_with (first | (refine wpList_load_row rfl _ _ rfl _ rfl _ _ _ _ ha Try.underlying76 rfl (by rw [H1.out]; kernel_rfl) ?_) | (refine wpList_store_row rfl _ _ _ rfl _ rfl _ rfl _ _ hr (by rw [H1.out]; kernel_rfl) (by rw [H1.out, bigC_size]) (fnC_one _) ?_))
      refine bodyPost_ret (results_cell_row rfl _ _ _ _ _ _ _ rfl (hr.row _) Try.underlying76 rfl (by rw [H1.out]; kernel_rfl)) rfl ⟨?_, Below.setRow hB (by omega) _⟩
      rw [show fnC (mixH n 17) = bigC (n / 2) from fnC_congr fun i hi => by simp [mixH, hi]]
set_option maxRecDepth 100000 in
set_option maxHeartbeats 400000 in
theorem less_any (n m : Nat) (w : World) (hn : n < 65536 ^ 17) (hm : m < 65536 ^ 17) :
    Calls Try.prog 117 #[.agg (bigC n), .agg (bigC m)] w fun e w' => e = .returned (.bool (decide (n < m))) ∧ Below w.heap.size w w' := by
  have HN := Lib.hid hn
  have HM := Lib.hid hm
  clear hn hm
  go_enter Try.func117, Try.ntmps117
  go_wp2_with (fail)
  go_loopw [5] (fun i wr => ∃ k : Nat, k ≤ 17 ∧ i = .int .i64 ((k : Int) - 1) ∧ Hid (∀ j, k ≤ j → j < 17 → dg n j = dg m j) ∧ blk wr w.heap.size (bigC n) 76 ∧ blk wr (w.heap.size + 1) (bigC m) 76 ∧ Below w.heap.size w wr) (fun i _ => (intOf i + 1).toNat)
  case atStart =>
    exact ⟨17, by omega, rfl, fun j h1 h2 => by omega, (blk.new _ _ _).alloc _, blk.new' (by simp), by go_grown⟩
  case round =>
    obtain ⟨k, hk, rfl, he, ha, hb, hB⟩ := hrel
    by_cases hlt : 0 < k
    · obtain ⟨k, rfl⟩ : ∃ j, k = j + 1 := ⟨k - 1, by omega⟩
      have e1 : ((k + 1 : Nat) : Int) - 1 = (k : Int) := by omega
      rw [e1]
      clear e1
      have ca : wr.cell? ⟨w.heap.size, k, none⟩ = some (.int .u64 (dg n k : Nat)) := ha.cellIs (fnC_get _ (by omega))
      have cb : wr.cell? ⟨w.heap.size + 1, k, none⟩ = some (.int .u64 (dg m k : Nat)) := hb.cellIs (fnC_get _ (by omega))
      by_cases hd : dg n k = dg m k
      · have hd1 : ((dg n k : Int) != (dg m k : Int)) = false := by rw [hd]; simp
        have HD := Lib.hid hd
        clear hd
        go_wp2_with (fail)
        go_quiet (fail)
        go_wp2_with (fail)
        go_roundw
        case rel =>
          refine ⟨k, by omega, by go_num, ?_, ha.drewN _, hb.drewN _, below_drewN hB _⟩
          intro j h1 h2
          by_cases e : j = k
          · subst e; exact HD.out
          · exact he.out j (by omega) h2
        case measure => simp [intOf] <;> omega
      · have hd1 : ((dg n k : Int) != (dg m k : Int)) = true := by simp; omega
        have HD := Lib.hid hd
        clear hd
        go_wp2_with (fail)
        go_quiet (fail)
        go_wp2_with (fail)
        go_quiet (fail)
        go_wp2_with (fail)
        go_ret
        refine ⟨congrArg (fun x => Ending.returned (.bool x)) ?_, by first | exact below_drewN (below_drewN hB _) _ | exact below_drewN hB _⟩
        have hl := less_digit (i := k) HN.out HM.out (fun j h1 h2 => he.out j (by omega) h2) HD.out
        (rw [decide_eq_decide, hl]) <;> omega
    · obtain rfl : k = 0 := by omega
      go_wp2_with (fail)
      go_ret
      refine ⟨congrArg (fun x => Ending.returned (.bool x)) ?_, hB⟩
      have : n = m := eq_of_all HN.out HM.out (fun j hj => he.out j (by omega) hj)
      subst this; simp
end Go.Proofs.Ythkklhfnmodpnaa
