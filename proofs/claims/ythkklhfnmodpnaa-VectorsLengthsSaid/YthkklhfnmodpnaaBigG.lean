/-
  The digits of an absolute value, and a number with a sign out of its digits (package perigeeref01).
-/
import Derived.Test.YthkklhfnmodpnaaBase
set_option linter.unusedSimpArgs false
set_option linter.unusedVariables false
namespace Go.Proofs.Ythkklhfnmodpnaa
open Go.RowKit PM

/-- The first k digits of N. -/
def mixZ (N k : Nat) : Nat → Nat := fun j => if j < k then dg N j else 0
set_option maxRecDepth 100000 in
set_option maxHeartbeats 1000000 in
theorem abs_any (a : Int) (w : World) (h0 : -9223372036854775808 ≤ a) (h1 : a ≤ 9223372036854775807) :
    Calls Try.prog 95 #[.int .i64 a] w fun e w' => e = .returned (.agg (bigC a.natAbs)) ∧ Below w.heap.size w w' := by
  obtain ⟨N, hN⟩ : ∃ N, N = a.natAbs := ⟨_, rfl⟩
  have hNb : N < 65536 ^ 4 := by omega
  rw [← hN]
  have e1 : a < 0 → IntKind.u64.wrap (-IntKind.u64.wrap a) = (N : Int) := by intro h; simp only [IntKind.wrap_u64]; omega
  have e2 : ¬ a < 0 → a = (N : Int) := by omega
  have HE1 := Lib.hid e1
  have HE2 := Lib.hid e2
  have HNN := Lib.hid hN
  have HB := Lib.hid hNb
  clear hN e1 e2 hNb
  by_cases ha : a < 0
  all_goals
    go_enter Try.func95, Try.ntmps95
    go_wp2_with (fail)
    first | rw [HE1.out ha] | skip
    go_loopw [3, 5] (fun n i wr => ∃ k : Nat, k ≤ 4 ∧ i = .int .i64 k ∧ n = .int .u64 (N / 65536 ^ k : Nat) ∧ blk wr w.heap.size (bigC 0) 76 ∧ blk wr (w.heap.size + 1) (fnC (mixZ N k)) 76 ∧ Below w.heap.size w wr) (fun _ i _ => 4 - (intOf i).toNat)
    case atStart =>
      refine ⟨0, by omega, rfl, ?_, ?_, ?_, by go_grown⟩
      · (rw [Nat.pow_zero, Nat.div_one]) <;> rw [← HE2.out ha]
      · rw [zero_eq_big]; exact (blk.new _ _ _).alloc _
      · rw [show fnC (mixZ N 0) = fnC (fun _ => 0) from fnC_congr fun i _ => by simp [mixZ], zero_big]; exact blk.new' (by simp)
    case round =>
      obtain ⟨k, hk, rfl, rfl, hr, hx, hB⟩ := hrel
      by_cases hlt : k < 4
      · have fx : wr.frozen? ⟨w.heap.size + 1, k, none⟩ = false := hx.free _
        have cx : wr.cell? ⟨w.heap.size + 1, k, none⟩ = some (.int .u64 (0 : Nat)) := hx.cellIs (by rw [fnC_get _ (by omega)]; simp [mixZ])
        have HD := Lib.hid (show N / 65536 ^ (k + 1) = N / 65536 ^ k / 65536 by rw [Nat.pow_succ, ← Nat.div_div_eq_div_mul])
        have HD2 := Lib.hid (show dg N k = N / 65536 ^ k % 65536 from rfl)
        have hlt2 : N / 65536 ^ k < 18446744073709551616 := Nat.lt_of_le_of_lt (Nat.div_le_self _ _) (Nat.lt_of_lt_of_le HB.out (by omega))
        obtain ⟨q, hq⟩ : ∃ q, q = N / 65536 ^ k := ⟨_, rfl⟩
        rw [← hq] at HD HD2 hlt2 ⊢
        clear hq
        go_wp2_with (fail)
        go_roundw
        case rel =>
          refine ⟨k + 1, by omega, by go_num, by rw [HD.out]; simp, hr.setOther (by simp <;> omega) _, ?_, hB.setCell (by simp <;> omega) _⟩
          refine hx.set' (fnC_set (by omega) ?_ ?_)
          · simp only [mixZ, if_pos (Nat.lt_succ_self k), HD2.out]; simp
          · intro j _ hj; simp only [mixZ]; split <;> split <;> first | rfl | omega
        case measure => simp [intOf] <;> omega
      · obtain rfl : k = 4 := by omega
        have hs := fnC_size (mixZ N 4)
        have H1 := Lib.hid hs
        clear hs
        go_wp2_with (first | (refine wpList_load_row rfl _ _ rfl _ rfl _ _ _ _ hx Try.underlying76 rfl (by rw [H1.out]; kernel_rfl) ?_) | (refine wpList_store_row rfl _ _ _ rfl _ rfl _ rfl _ _ hr (by rw [H1.out]; kernel_rfl) (by rw [H1.out, bigC_size]) (fnC_one _) ?_))
        refine bodyPost_ret (results_cell_row rfl _ _ _ _ _ _ _ rfl (hr.row _) Try.underlying76 rfl (by rw [H1.out]; kernel_rfl)) rfl ⟨?_, Below.setRow hB (by omega) _⟩
        rw [show fnC (mixZ N 4) = bigC N from fnC_congr fun i _ => by
          simp only [mixZ]; split
          · rfl
          · rw [dg_high HB.out (by omega)]]
set_option maxRecDepth 100000 in
set_option maxHeartbeats 1000000 in
theorem rsigned_any (n : Nat) (neg : Bool) (w : World) (hn : n < 65536 ^ 17) :
    Calls Try.prog 96 #[.bool neg, .agg (bigC n)] w fun e w' => e = .returned (.tuple #[.int .i64 (fitV (sgn neg n)), .int .i64 (fitE (sgn neg n))]) ∧ Below w.heap.size w w' := by
  have c0 : (bigC n)[0]? = some (.int .u64 (dg n 0 : Nat)) := fnC_get _ (by omega)
  have c1 : (bigC n)[1]? = some (.int .u64 (dg n 1 : Nat)) := fnC_get _ (by omega)
  have c2 : (bigC n)[2]? = some (.int .u64 (dg n 2 : Nat)) := fnC_get _ (by omega)
  have c3 : (bigC n)[3]? = some (.int .u64 (dg n 3 : Nat)) := fnC_get _ (by omega)
  have d0 := dg_lt n 0
  have d1 := dg_lt n 1
  have d2 := dg_lt n 2
  have d3 := dg_lt n 3
  have HN := Lib.hid hn
  clear hn
  go_enter Try.func96, Try.ntmps96
  go_wp2_with (fail)
  have HL : Hid ((dg n 0 : Int) + (dg n 1 : Int) * 65536 + (dg n 2 : Int) * 65536 * 65536 + (dg n 3 : Int) * 65536 * 65536 * 65536 = (low n 4 : Nat)) := by
    have : low n 4 = dg n 0 + dg n 1 * 65536 + dg n 2 * 65536 * 65536 + dg n 3 * 65536 * 65536 * 65536 := by
      rw [low_succ, low_succ, low_succ, low_succ, low_zero]; omega
    show _ = _
    rw [this]; simp
  have hL := low_lt n 4
  rw [HL.out]
  clear c0 c1 c2 c3 d0 d1 d2 d3 HL
  obtain ⟨L, hLe⟩ : ∃ L, L = low n 4 := ⟨_, rfl⟩
  rw [← hLe] at hL ⊢
  have HLE := Lib.hid hLe
  clear hLe
  go_loopw [7] (fun i wr => ∃ k : Nat, 4 ≤ k ∧ k ≤ 17 ∧ i = .int .i64 k ∧ Hid (∀ j, 4 ≤ j → j < k → dg n j = 0) ∧ blk wr w.heap.size (bigC n) 76 ∧ Below w.heap.size w wr) (fun i _ => 17 - (intOf i).toNat)
  case atStart => exact ⟨4, by omega, by omega, rfl, fun j h1 h2 => by omega, blk.new _ _ _, by go_grown⟩
  case round =>
    obtain ⟨k, hk4, hk, rfl, hz, ha, hB⟩ := hrel
    by_cases hlt : k < 17
    · have ca : wr.cell? ⟨w.heap.size, k, none⟩ = some (.int .u64 (dg n k : Nat)) := ha.cellIs (fnC_get _ hlt)
      by_cases hd : dg n k = 0
      · have hd' : ((dg n k : Int) != 0) = false := by rw [hd]; rfl
        have HD := Lib.hid hd
        clear hd
        go_wp2_with (fail)
        go_roundw
        case rel =>
          refine ⟨k + 1, by omega, by omega, by go_num, ?_, ha, hB⟩
          intro j h1 h2
          by_cases e : j = k
          · subst e; exact HD.out
          · exact hz.out j h1 (by omega)
        case measure => simp [intOf] <;> omega
      · have hd' : ((dg n k : Int) != 0) = true := by simp <;> omega
        have hbig : 18446744073709551616 ≤ n := by
          apply Nat.le_of_not_lt; intro hlt'
          exact hd (dg_high (k := 4) (by omega) hk4)
        have HD := Lib.hid hbig
        clear hd hbig
        go_wp2_with (fail)
        go_ret2
        have hf : inI (sgn neg n) = false := by
          have := HD.out
          cases neg <;> simp [inI, sgn] <;> omega
        exact ⟨ret2I (fitV_no hf).symm (fitE_no hf).symm, hB⟩
    · obtain rfl : k = 17 := by omega
      have hnL : n = L := by
        have hnb : n < 65536 ^ 4 := by
          have := split_low n 4
          have h0 : n / 65536 ^ 4 = 0 := by
            apply eq_of_dg 17 (Nat.lt_of_le_of_lt (Nat.div_le_self _ _) HN.out) (by simp)
            intro s hs
            rw [← dg_add, show dg 0 s = 0 by simp [dg]]
            rcases Nat.lt_or_ge (4 + s) 17 with h | h
            · exact hz.out _ (by omega) h
            · exact dg_high HN.out h
          rw [h0, Nat.mul_zero, Nat.zero_add] at this
          rw [this]; exact low_lt n 4
        rw [HLE.out, low_all hnb]
      have HNL := Lib.hid hnL
      clear hnL hL
      by_cases h1 : L ≤ 9223372036854775807
      · have hb1 : ((L : Int) == 9223372036854775808) = false := by simp <;> omega
        cases neg
        all_goals
          go_wp2_with (fail)
          go_ret2
          have hf : ∀ neg, inI (sgn neg n) = true := by
            intro neg; rw [HNL.out]; cases neg <;> simp [inI, sgn] <;> omega
          refine ⟨ret2I ((Eq.trans ?_ (fitV_yes (hf _)).symm)) (fitE_yes (hf _)).symm, hB⟩
          simp only [sgn, HNL.out, if_true, if_false, Bool.false_eq_true, wrap64, IntKind.wrap_u64] <;> omega
      · by_cases h2 : L = 9223372036854775808
        · subst h2
          cases neg
          · go_wp2_with (fail)
            go_ret2
            have hf : inI (sgn false n) = false := by
              simp only [inI, sgn, HNL.out]; decide
            exact ⟨ret2I (fitV_no hf).symm (fitE_no hf).symm, hB⟩
          · go_wp2_with (fail)
            go_ret2
            have hf : inI (sgn true n) = true := by
              simp only [inI, sgn, HNL.out]; decide
            refine ⟨ret2I ((Eq.trans ?_ (fitV_yes hf).symm)) (fitE_yes hf).symm, hB⟩
            rw [show sgn true n = -9223372036854775808 from by rw [HNL.out]; rfl]
            simp only [wrap64, IntKind.wrap_u64]; rfl
        · have h3 : 9223372036854775808 < L := by omega
          clear h2
          go_wp2_with (fail)
          all_goals
            go_ret2
            have hf : ∀ neg, inI (sgn neg n) = false := by
              intro neg; rw [HNL.out]; cases neg <;> simp [inI, sgn] <;> omega
            exact ⟨ret2I (fitV_no (hf _)).symm (fitE_no (hf _)).symm, hB⟩
end Go.Proofs.Ythkklhfnmodpnaa
