/-
  The product of numbers of 17 digits (package perigeeref01), for factors below 2^128.
-/
import Derived.Test.YthkklhfnmodpnaaBase
set_option linter.unusedSimpArgs false
set_option linter.unusedVariables false
namespace Go.Proofs.Ythkklhfnmodpnaa
open Go.RowKit PM

/-- The digits of a times b in the making: round i, inner round k. -/
def mixT (n m i k : Nat) : Nat → Nat := fun j => if j < i + k then dg (low n (i + 1) * m) j else dg (low n i * m) j
set_option maxRecDepth 100000 in
set_option maxHeartbeats 1000000 in
theorem times_any (n m : Nat) (w : World) (hn : n < 65536 ^ 8) (hm : m < 65536 ^ 8) :
    Calls Try.prog 94 #[.agg (bigC n), .agg (bigC m)] w fun e w' => e = .returned (.agg (bigC (n * m))) ∧ Below w.heap.size w w' := by
  have HN := Lib.hid hn
  have HM := Lib.hid hm
  clear hn hm
  go_enter Try.func94, Try.ntmps94
  go_wp2_with (fail)
  go_loopw [6] (fun i wr => ∃ k : Nat, k ≤ 8 ∧ i = .int .i64 k ∧ blk wr w.heap.size (bigC n) 76 ∧ blk wr (w.heap.size + 1) (bigC m) 76 ∧ blk wr (w.heap.size + 1 + 1) (bigC 0) 76 ∧ blk wr (w.heap.size + 1 + 1 + 1) (bigC (low n k * m)) 76 ∧ Below w.heap.size w wr) (fun i _ => 8 - (intOf i).toNat)
  case atStart =>
    refine ⟨0, by omega, rfl, (((blk.new _ _ _).alloc _).alloc _).alloc _, ((blk.new' (by simp)).alloc _).alloc _, ?_, ?_, by go_grown⟩
    · rw [zero_eq_big]; exact (blk.new' (by simp)).alloc _
    · rw [zero_eq_big, low_zero, Nat.zero_mul]; exact blk.new' (by simp)
  case round =>
    obtain ⟨i, hi, rfl, ha, hb, hr, hx, hB⟩ := hrel
    by_cases hlt : i < 8
    · have ca : wr.cell? ⟨w.heap.size, i, none⟩ = some (.int .u64 (dg n i : Nat)) := ha.cellIs (fnC_get _ (by omega))
      have hd1 := dg_lt n i
      go_wp2_with (fail)
      clear ca
      obtain ⟨wo, rfl⟩ : ∃ wo : World, wo = wr := ⟨_, rfl⟩
      go_loopw [7, 8] (fun c k wi => ∃ j : Nat, j ≤ 9 ∧ k = .int .i64 j ∧ c = .int .u64 (carryM (low n i * m / 65536 ^ i) (dg n i) m j : Nat) ∧ blk wi w.heap.size (bigC n) 76 ∧ blk wi (w.heap.size + 1) (bigC m) 76 ∧ blk wi (w.heap.size + 1 + 1) (bigC 0) 76 ∧ blk wi (w.heap.size + 1 + 1 + 1) (fnC (mixT n m i j)) 76 ∧ Below w.heap.size w wi) (fun _ k _ => 9 - (intOf k).toNat)
      case atStart =>
        refine ⟨0, by omega, rfl, by rw [carryM_zero]; rfl, ha, hb, hr, ?_, hB⟩
        rw [show mixT n m i 0 = dg (low n i * m) from funext fun j => by simp only [mixT]; split <;> first | rfl | exact mul_lower (by omega)]
        exact hx
      case round =>
        obtain ⟨j, hj, rfl, rfl, ha, hb, hr, hx, hB⟩ := hrel
        by_cases hlt2 : j < 9
        · have ca : wr.cell? ⟨w.heap.size, i, none⟩ = some (.int .u64 (dg n i : Nat)) := ha.cellIs (fnC_get _ (by omega))
          have cb : wr.cell? ⟨w.heap.size + 1, j, none⟩ = some (.int .u64 (dg m j : Nat)) := hb.cellIs (fnC_get _ (by omega))
          have cx : wr.cell? ⟨w.heap.size + 1 + 1 + 1, i + j, none⟩ = some (.int .u64 (dg (low n i * m) (i + j) : Nat)) := hx.cellIs (by rw [fnC_get _ (by omega)]; simp only [mixT, if_neg (Nat.lt_irrefl _)])
          have fx : wr.frozen? ⟨w.heap.size + 1 + 1 + 1, i + j, none⟩ = false := hx.free _
          have hd2 := dg_lt m j
          have hd3 := dg_lt (low n i * m) (i + j)
          have hc := carryM_le (low n i * m / 65536 ^ i) (dg n i) m j
          have hm1 : dg n i * dg m j ≤ 65535 * 65535 := Nat.mul_le_mul (by omega) (by omega)
          go_wp2_with (fail)
          go_quiet (fail)
          go_wp2_with (fail)
          have ed : dg (low n i * m) (i + j) = dg (low n i * m / 65536 ^ i) j := dg_add _ _ _
          go_roundw
          case rel =>
            refine ⟨j + 1, by omega, by go_num, ?_, (ha.drewN _).setOther (by simp <;> omega) _, (hb.drewN _).setOther (by simp <;> omega) _, (hr.drewN _).setOther (by simp) _, ?_, (below_drewN hB _).setCell (by simp <;> omega) _⟩
            · rw [← mul_carry, ed]; simp
            · refine (hx.drewN _).set' (fnC_set (by omega) ?_ ?_)
              · simp only [mixT, if_pos (show i + j < i + (j + 1) by omega), mul_inner, ← mul_digit, ed]; simp
              · intro s _ hs; simp only [mixT]; split <;> split <;> first | rfl | omega
          case measure => simp [intOf] <;> omega
        · obtain rfl : j = 9 := by omega
          go_wp2_with (fail)
          go_roundw
          case rel =>
            refine ⟨i + 1, by omega, by go_num, ha, hb, hr, ?_, hB⟩
            rw [show bigC (low n (i + 1) * m) = fnC (mixT n m i 9) from fnC_congr fun s hs => by
              simp only [mixT]; split
              · rfl
              · exact mul_upper HM.out (by omega)]
            exact hx
          case measure => simp [intOf] <;> omega
    · obtain rfl : i = 8 := by omega
      have hs := bigC_size (low n 8 * m)
      have H1 := Lib.hid hs
      clear hs
      go_wp2_with (first | (refine wpList_load_row rfl _ _ rfl _ rfl _ _ _ _ hx Try.underlying76 rfl (by rw [H1.out]; kernel_rfl) ?_) | (refine wpList_store_row rfl _ _ _ rfl _ rfl _ rfl _ _ hr (by rw [H1.out]; kernel_rfl) (by rw [H1.out, bigC_size]) (fnC_one _) ?_))
      refine bodyPost_ret (results_cell_row rfl _ _ _ _ _ _ _ rfl (hr.row _) Try.underlying76 rfl (by rw [H1.out]; kernel_rfl)) rfl ⟨?_, Below.setRow hB (by omega) _⟩
      rw [low_all HN.out]
end Go.Proofs.Ythkklhfnmodpnaa
