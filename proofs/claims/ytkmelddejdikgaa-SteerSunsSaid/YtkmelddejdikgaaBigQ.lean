/-
  The sum, the half and the comparison of numbers of 17 digits (package perigeeref01). The difference of numbers of 17 digits (package perigeeref01), for a subtrahend that is not greater. The product of numbers of 17 digits (package perigeeref01), for factors below 2^128. The digits of an absolute value, and a number with a sign out of its digits (package perigeeref01). The quotient of two numbers of 17 digits (package perigeeref01), rounded down: for a dividend below 2^256 and a divisor above 0. The nearest integer of a quotient, by its sign and its absolute values (package perigeeref01). The nearest integer by the specification's own numbers (package perigeeref01), for dividends up to 2^127 times the divisor.
-/
import Derived.Test.YtkmelddejdikgaaBase
import Derived.Deep.Cut
import Derived.Deep.LoopGhost
import Derived.Deep.WholeRow
set_option linter.unusedSimpArgs false
set_option linter.unusedVariables false
namespace Go.Proofs.Ytkmelddejdikgaa
open Go.RowKit PM
def mixA (n m k : Nat) : Nat → Nat := fun i => if i < k then dg (n + m) i else dg n i
set_option maxRecDepth 100000 in
set_option maxHeartbeats 400000 in
theorem add_any (n m : Nat) (w : World)  :
    Calls Try.prog 160 #[.agg (bigC n), .agg (bigC m)] w fun e w' => e = .returned (.agg (bigC (n + m))) ∧ Below w.heap.size w w' := by
  go_enter Try.func160, Try.ntmps160
  go_wp2_with (fail)
  go_loopw [5, 6] (fun c i wr => ∃ k : Nat, k ≤ 17 ∧ i = .int .i64 k ∧ c = .int .u64 (carry n m k : Nat) ∧ blk wr w.heap.size (fnC (mixA n m k)) 176 ∧ blk wr (w.heap.size + 1) (bigC m) 176 ∧ blk wr (w.heap.size + 1 + 1) (bigC 0) 176 ∧ Below w.heap.size w wr) (fun _ i _ => 17 - (intOf i).toNat)
  case atStart =>
    refine ⟨0, by omega, rfl, by rw [carry_zero]; rfl, ?_, ?_, ?_, by go_grown⟩
    · rw [show mixA n m 0 = dg n from funext fun i => by simp [mixA]]
      exact ((blk.new _ _ _).alloc _).alloc _
    · exact (blk.new' (by simp)).alloc _
    · rw [zero_eq_big]; exact blk.new' (by simp)
  case round =>
    obtain ⟨k, hk, rfl, rfl, ha, hb, hr, hB⟩ := hrel
    by_cases hlt : k < 17
    · have ca : wr.cell? ⟨w.heap.size, k, none⟩ = some (.int .u64 (dg n k : Nat)) := ha.cellIs (by rw [fnC_get _ hlt]; simp [mixA])
      have cb : wr.cell? ⟨w.heap.size + 1, k, none⟩ = some (.int .u64 (dg m k : Nat)) := hb.cellIs (fnC_get _ hlt)
      have fa : wr.frozen? ⟨w.heap.size, k, none⟩ = false := ha.free _
      have hc1 := carry_le n m k
      have hd1 := dg_lt n k
      have hd2 := dg_lt m k
      go_wp2_with (fail)
      go_quiet (fail)
      go_wp2_with (fail)
      go_roundw
      case rel =>
        refine ⟨k + 1, by omega, by go_num, ?_, ?_, (hb.drewN _).setOther (by simp) _, (hr.drewN _).setOther (by simp; omega) _, ?_⟩
        · rw [← add_carry]; simp
        · refine (ha.drewN _).set' (fnC_set hlt ?_ ?_)
          · simp only [mixA, if_pos (Nat.lt_succ_self k), ← add_digit]; simp
          · intro j _ hj; simp only [mixA]; split <;> split <;> first | rfl | omega
        · exact (below_drewN hB _).setCell (by simp) _
      case measure => simp [intOf]; omega
    · obtain rfl : k = 17 := by omega
      have hs := fnC_size (mixA n m 17)
      have H1 := Lib.hid hs
      clear hs
      go_wp2_with (first | (refine wpList_load_row rfl _ _ rfl _ rfl _ _ _ _ ha Try.underlying176 rfl (by rw [H1.out]; kernel_rfl) ?_) | (refine wpList_store_row rfl _ _ _ rfl _ rfl _ rfl _ _ hr (by rw [H1.out]; kernel_rfl) (by rw [H1.out, bigC_size]) (fnC_one _) ?_))
      refine bodyPost_ret (results_cell_row rfl _ _ _ _ _ _ _ rfl (hr.row _) Try.underlying176 rfl (by rw [H1.out]; kernel_rfl)) rfl ⟨?_, Below.setRow hB (by omega) _⟩
      rw [show fnC (mixA n m 17) = bigC (n + m) from fnC_congr fun i hi => by simp [mixA, hi]]
def mixH (n k : Nat) : Nat → Nat := fun i => if i < k then dg (n / 2) i else dg n i
set_option maxRecDepth 100000 in
set_option maxHeartbeats 400000 in
theorem half_any (n : Nat) (w : World) (hn : n < 65536 ^ 17) :
    Calls Try.prog 190 #[.agg (bigC n)] w fun e w' => e = .returned (.agg (bigC (n / 2))) ∧ Below w.heap.size w w' := by
  have HN := Lib.hid hn
  clear hn
  go_enter Try.func190, Try.ntmps190
  go_wp2_with (fail)
  go_loopw [3] (fun i wr => ∃ k : Nat, k ≤ 17 ∧ i = .int .i64 k ∧ blk wr w.heap.size (fnC (mixH n k)) 176 ∧ blk wr (w.heap.size + 1) (bigC 0) 176 ∧ Below w.heap.size w wr) (fun i _ => 17 - (intOf i).toNat)
  case atStart =>
    refine ⟨0, by omega, rfl, ?_, ?_, by go_grown⟩
    · rw [show mixH n 0 = dg n from funext fun i => by simp [mixH]]
      exact (blk.new _ _ _).alloc _
    · rw [zero_eq_big]; exact blk.new' (by simp)
  case round =>
    obtain ⟨k, hk, rfl, ha, hr, hB⟩ := hrel
    by_cases hlt : k < 17
    · have ca : wr.cell? ⟨w.heap.size, k, none⟩ = some (.int .u64 (dg n k : Nat)) := ha.cellIs (by rw [fnC_get _ hlt]; simp [mixH])
      have fa : wr.frozen? ⟨w.heap.size, k, none⟩ = false := ha.free _
      have hd1 := dg_lt n k
      have hd2 := dg_lt n (k + 1)
      by_cases hlt2 : k < 16
      · have cb : wr.cell? ⟨w.heap.size, k + 1, none⟩ = some (.int .u64 (dg n (k + 1) : Nat)) := ha.cellIs (by rw [fnC_get _ (by omega)]; simp only [mixH, if_neg (show ¬ k + 1 < k by omega)])
        go_wp2_with (fail)
        go_region
        go_wp2_with (fail)
        go_roundw
        case rel =>
          refine ⟨k + 1, by omega, by go_num, ?_, ((hr.setOther (by simp) _).setOther (by simp) _).drew, ((hB.setCell (by simp) _).setCell (by simp) _).drew⟩
          refine (ha.set _ _).set' ?_
          rw [Array.setIfInBounds_setIfInBounds]
          refine fnC_set hlt ?_ ?_
          · simp only [mixH, if_pos (Nat.lt_succ_self k), ← half_digit]; omega
          · intro j _ hj; simp only [mixH]; split <;> split <;> first | rfl | omega
        case measure => simp [intOf] <;> omega
      · go_wp2_with (fail)
        go_roundw
        case rel =>
          refine ⟨k + 1, by omega, by go_num, ?_, hr.setOther (by simp) _, hB.setCell (by simp) _⟩
          refine ha.set' (fnC_set hlt ?_ ?_)
          · obtain rfl : k = 16 := by omega
            simp only [mixH, if_pos (Nat.lt_succ_self 16), ← half_digit]
            rw [dg_high HN.out (Nat.le_refl 17)]; omega
          · intro j _ hj; simp only [mixH]; split <;> split <;> first | rfl | omega
        case measure => simp [intOf] <;> omega
    · obtain rfl : k = 17 := by omega
      have hs := fnC_size (mixH n 17)
      have H1 := Lib.hid hs
      clear hs
      go_wp2_with (first | (refine wpList_load_row rfl _ _ rfl _ rfl _ _ _ _ ha Try.underlying176 rfl (by rw [H1.out]; kernel_rfl) ?_) | (refine wpList_store_row rfl _ _ _ rfl _ rfl _ rfl _ _ hr (by rw [H1.out]; kernel_rfl) (by rw [H1.out, bigC_size]) (fnC_one _) ?_))
      refine bodyPost_ret (results_cell_row rfl _ _ _ _ _ _ _ rfl (hr.row _) Try.underlying176 rfl (by rw [H1.out]; kernel_rfl)) rfl ⟨?_, Below.setRow hB (by omega) _⟩
      rw [show fnC (mixH n 17) = bigC (n / 2) from fnC_congr fun i hi => by simp [mixH, hi]]
set_option maxRecDepth 100000 in
set_option maxHeartbeats 400000 in
theorem less_any (n m : Nat) (w : World) (hn : n < 65536 ^ 17) (hm : m < 65536 ^ 17) :
    Calls Try.prog 167 #[.agg (bigC n), .agg (bigC m)] w fun e w' => e = .returned (.bool (decide (n < m))) ∧ Below w.heap.size w w' := by
  have HN := Lib.hid hn
  have HM := Lib.hid hm
  clear hn hm
  go_enter Try.func167, Try.ntmps167
  go_wp2_with (fail)
  go_loopw [5] (fun i wr => ∃ k : Nat, k ≤ 17 ∧ i = .int .i64 ((k : Int) - 1) ∧ Hid (∀ j, k ≤ j → j < 17 → dg n j = dg m j) ∧ blk wr w.heap.size (bigC n) 176 ∧ blk wr (w.heap.size + 1) (bigC m) 176 ∧ Below w.heap.size w wr) (fun i _ => (intOf i + 1).toNat)
  case atStart =>
    exact ⟨17, by omega, rfl, fun j h1 h2 => by omega, (blk.new _ _ _).alloc _, blk.new' (by simp), by go_grown⟩
  case round =>
    obtain ⟨k, hk, rfl, he, ha, hb, hB⟩ := hrel
    by_cases hlt : 0 < k
    · obtain ⟨k, rfl⟩ : ∃ j, k = j + 1 := ⟨k - 1, by omega⟩
      have e1 : ((k + 1 : Nat) : Int) - 1 = (k : Int) := by omega
      rw [e1]
      clear e1
      have ca : wr.cell? ⟨w.heap.size, k, none⟩ = some (.int .u64 (dg n k : Nat)) := ha.cellIs (fnC_get _ (by omega))
      have cb : wr.cell? ⟨w.heap.size + 1, k, none⟩ = some (.int .u64 (dg m k : Nat)) := hb.cellIs (fnC_get _ (by omega))
      by_cases hd : dg n k = dg m k
      · have hd1 : ((dg n k : Int) != (dg m k : Int)) = false := by rw [hd]; simp
        have HD := Lib.hid hd
        clear hd
        go_wp2_with (fail)
        go_quiet (fail)
        go_wp2_with (fail)
        go_roundw
        case rel =>
          refine ⟨k, by omega, by go_num, ?_, ha.drewN _, hb.drewN _, below_drewN hB _⟩
          intro j h1 h2
          by_cases e : j = k
          · subst e; exact HD.out
          · exact he.out j (by omega) h2
        case measure => simp [intOf] <;> omega
      · have hd1 : ((dg n k : Int) != (dg m k : Int)) = true := by simp; omega
        have HD := Lib.hid hd
        clear hd
        go_wp2_with (fail)
        go_quiet (fail)
        go_wp2_with (fail)
        go_quiet (fail)
        go_wp2_with (fail)
        go_ret
        refine ⟨congrArg (fun x => Ending.returned (.bool x)) ?_, by first | exact below_drewN (below_drewN hB _) _ | exact below_drewN hB _⟩
        have hl := less_digit (i := k) HN.out HM.out (fun j h1 h2 => he.out j (by omega) h2) HD.out
        (rw [decide_eq_decide, hl]) <;> omega
    · obtain rfl : k = 0 := by omega
      go_wp2_with (fail)
      go_ret
      refine ⟨congrArg (fun x => Ending.returned (.bool x)) ?_, hB⟩
      have : n = m := eq_of_all HN.out HM.out (fun j hj => he.out j (by omega) hj)
      subst this; simp
end Go.Proofs.Ytkmelddejdikgaa
namespace Go.Proofs.Ytkmelddejdikgaa
open Go.RowKit PM
def mixB (N i k : Nat) : Nat → Nat := fun j => if j = i then dg N i + 65536 else if i < j ∧ j < k then 65535 else dg N j
set_option maxRecDepth 100000 in
set_option maxHeartbeats 1000000 in
theorem sub_any (n m : Nat) (w : World) (hn : n < 65536 ^ 17) (hm : m ≤ n) :
    Calls Try.prog 169 #[.agg (bigC n), .agg (bigC m)] w fun e w' => e = .returned (.agg (bigC (n - m))) ∧ Below w.heap.size w w' := by
  have HN := Lib.hid hn
  have HM := Lib.hid hm
  clear hn hm
  go_enter Try.func169, Try.ntmps169
  go_wp2_with (fail)
  go_loopw [5] (fun i wr => ∃ k : Nat, k ≤ 17 ∧ i = .int .i64 k ∧ blk wr w.heap.size (bigC (subN n m k)) 176 ∧ blk wr (w.heap.size + 1) (bigC m) 176 ∧ blk wr (w.heap.size + 1 + 1) (bigC 0) 176 ∧ Below w.heap.size w wr) (fun i _ => 17 - (intOf i).toNat)
  case atStart =>
    refine ⟨0, by omega, rfl, ?_, (blk.new' (by simp)).alloc _, ?_, by go_grown⟩
    · rw [subN_zero]; exact ((blk.new _ _ _).alloc _).alloc _
    · rw [zero_eq_big]; exact blk.new' (by simp)
  case round =>
    obtain ⟨i, hi, rfl, ha, hb, hr, hB⟩ := hrel
    by_cases hlt : i < 17
    · have ca : wr.cell? ⟨w.heap.size, i, none⟩ = some (.int .u64 (dg (subN n m i) i : Nat)) := ha.cellIs (fnC_get _ (by omega))
      have cb : wr.cell? ⟨w.heap.size + 1, i, none⟩ = some (.int .u64 (dg m i : Nat)) := hb.cellIs (fnC_get _ (by omega))
      have fa : wr.frozen? ⟨w.heap.size, i, none⟩ = false := ha.free _
      have hd1 := dg_lt (subN n m i) i
      have hd2 := dg_lt m i
      have HR := Lib.hid (subN_round (i := i) HM.out)
      by_cases hbr : dg (subN n m i) i < dg m i
      · go_wp2_with (fail)
        go_quiet (fail)
        go_wp2_with (fail)
        have ha' := (ha.drewN nq).set' (c' := fnC (mixB (subN n m i) i (i + 1))) (i := i) (v := .int .u64 ((dg (subN n m i) i : Int) + 65536)) (fnC_set hlt (by simp [mixB]) (fun j _ hj => by simp only [mixB, if_neg hj]; split <;> first | rfl | omega))
        have hb' := (hb.drewN nq).setOther (a := ⟨w.heap.size, i, none⟩) (by simp <;> omega) (.int .u64 ((dg (subN n m i) i : Int) + 65536))
        have hr' := (hr.drewN nq).setOther (a := ⟨w.heap.size, i, none⟩) (by simp <;> omega) (.int .u64 ((dg (subN n m i) i : Int) + 65536))
        have hB' := (below_drewN hB nq).setCell (p := ⟨w.heap.size, i, none⟩) (Nat.le_refl _) (.int .u64 ((dg (subN n m i) i : Int) + 65536))
        clear ha hb hr hB ca cb fa
        generalize (wr.drewN nq).setCell ⟨w.heap.size, i, none⟩ (.int .u64 ((dg (subN n m i) i : Int) + 65536)) = wo at *
        go_loopw [6] (fun kv wi => ∃ k : Nat, i < k ∧ kv = .int .i64 k ∧ Hid (∀ s, i < s → s < k → dg (subN n m i) s = 0) ∧ blk wi w.heap.size (fnC (mixB (subN n m i) i k)) 176 ∧ blk wi (w.heap.size + 1) (bigC m) 176 ∧ blk wi (w.heap.size + 1 + 1) (bigC 0) 176 ∧ Below w.heap.size w wi) (fun k _ => 17 - (intOf k).toNat)
        case atStart => exact ⟨i + 1, by omega, by go_num, fun s h1 h2 => by omega, ha', hb', hr', hB'⟩
        case round =>
          clear ha' hb' hr' hB'
          obtain ⟨k, hik, rfl, hz, ha, hb, hr, hB⟩ := hrel
          have hk17 : k < 17 := sub_exists HR.out hbr (Nat.lt_of_le_of_lt (Nat.sub_le _ _) HN.out) k hz.out
          have ck : wr.cell? ⟨w.heap.size, k, none⟩ = some (.int .u64 (dg (subN n m i) k : Nat)) := ha.cellIs (by rw [fnC_get _ (by omega)]; simp only [mixB, if_neg (show ¬ k = i by omega), if_neg (show ¬ (i < k ∧ k < k) by omega)])
          have fk : wr.frozen? ⟨w.heap.size, k, none⟩ = false := ha.free _
          have hd3 := dg_lt (subN n m i) k
          by_cases h0 : dg (subN n m i) k = 0
          · have h0' : ((dg (subN n m i) k : Int) == 0) = true := by rw [h0]; rfl
            have H0 := Lib.hid h0
            clear h0
            go_wp2_with (fail)
            go_roundw
            case rel =>
              refine ⟨k + 1, by omega, by go_num, ?_, ?_, hb.setOther (by simp <;> omega) _, hr.setOther (by simp <;> omega) _, hB.setCell (by simp) _⟩
              · intro s h1 h2
                by_cases e : s = k
                · subst e; exact H0.out
                · exact hz.out s h1 (by omega)
              · refine ha.set' (fnC_set hk17 ?_ ?_)
                · simp only [mixB, if_neg (show ¬ k = i by omega), if_pos (show i < k ∧ k < k + 1 by omega)]; rfl
                · intro j _ hj; simp only [mixB]; split
                  · rfl
                  · split <;> split <;> first | rfl | omega
            case measure => simp [intOf] <;> omega
          · have h0' : ((dg (subN n m i) k : Int) == 0) = false := by simp <;> omega
            have H0 := Lib.hid h0
            have hpos : 0 < dg (subN n m i) k := by omega
            clear h0
            have ci : wr.cell? ⟨w.heap.size, i, none⟩ = some (.int .u64 ((dg (subN n m i) i + 65536 : Nat) : Nat)) := ha.cellIs (by rw [fnC_get _ (by omega)]; simp only [mixB, if_true])
            have fi : wr.frozen? ⟨w.heap.size, i, none⟩ = false := ha.free _
            have ca2 : (wr.setCell ⟨w.heap.size, k, none⟩ (.int .u64 ((dg (subN n m i) k : Int) - 1))).cell? ⟨w.heap.size, i, none⟩ = some (.int .u64 ((dg (subN n m i) i + 65536 : Nat) : Nat)) := by
              rw [World.cell?_setCell_other _ _ _ _ (by simp <;> omega)]; exact ci
            have cb : wr.cell? ⟨w.heap.size + 1, i, none⟩ = some (.int .u64 (dg m i : Nat)) := hb.cellIs (fnC_get _ (by omega))
            go_wp2_with (fail)
            go_region
            go_wp2_with (fail)
            go_roundw
            case rel =>
              refine ⟨i + 1, by omega, by go_num, ?_, ((hb.setOther (by simp <;> omega) _).setOther (by simp <;> omega) _).drew, ((hr.setOther (by simp <;> omega) _).setOther (by simp <;> omega) _).drew, ((hB.setCell (by simp) _).setCell (by simp) _).drew⟩
              have hz' := hz.out
              have h0' := H0.out
              refine (((ha.set' (c' := fnC fun j => if j = k then dg (subN n m i) k - 1 else mixB (subN n m i) i k j) (fnC_set hk17 ?_ ?_)).set' (fnC_set hlt ?_ ?_))).drew
              · rw [if_pos rfl]; omega
              · intro j _ hj; rw [if_neg hj]
              · rw [sub_borrow rfl HR.out hd2 hbr hik hz' h0', if_neg (by omega), if_pos rfl]; omega
              · intro j _ hj
                rw [sub_borrow rfl HR.out hd2 hbr hik hz' h0']
                simp only [mixB, if_neg hj]
                by_cases h1 : j < i
                · rw [if_pos h1, if_neg (by omega), if_neg (by omega)]
                · rw [if_neg h1]
                  by_cases h2 : j < k
                  · rw [if_pos h2, if_neg (by omega), if_pos (by omega)]
                  · rw [if_neg h2]
                    by_cases h3 : j = k
                    · rw [if_pos h3, if_pos h3]
                    · rw [if_neg h3, if_neg h3, if_neg (by omega)]
            case measure => simp [intOf] <;> omega
      · go_wp2_with (fail)
        go_quiet (fail)
        go_wp2_with (fail)
        go_region
        go_wp2_with (fail)
        go_roundw
        case rel =>
          refine ⟨i + 1, by omega, by go_num, ?_, (hb.drewN _).setOther (by simp <;> omega) _, (hr.drewN _).setOther (by simp <;> omega) _, (below_drewN hB _).setCell (by simp) _⟩
          refine (ha.drewN _).set' (fnC_set hlt ?_ ?_)
          · rw [sub_plain rfl HR.out (by omega), if_pos rfl]; omega
          · intro j _ hj
            rw [sub_plain rfl HR.out (by omega), if_neg hj]
        case measure => simp [intOf] <;> omega
    · obtain rfl : i = 17 := by omega
      have hs := bigC_size (subN n m 17)
      have H1 := Lib.hid hs
      clear hs
      go_wp2_with (first | (refine wpList_load_row rfl _ _ rfl _ rfl _ _ _ _ ha Try.underlying176 rfl (by rw [H1.out]; kernel_rfl) ?_) | (refine wpList_store_row rfl _ _ _ rfl _ rfl _ rfl _ _ hr (by rw [H1.out]; kernel_rfl) (by rw [H1.out, bigC_size]) (fnC_one _) ?_))
      refine bodyPost_ret (results_cell_row rfl _ _ _ _ _ _ _ rfl (hr.row _) Try.underlying176 rfl (by rw [H1.out]; kernel_rfl)) rfl ⟨?_, Below.setRow hB (by omega) _⟩
      rw [show subN n m 17 = n - m by unfold subN; rw [low_all (Nat.lt_of_le_of_lt HM.out HN.out)]]
end Go.Proofs.Ytkmelddejdikgaa
namespace Go.Proofs.Ytkmelddejdikgaa
open Go.RowKit PM
def mixT (n m i k : Nat) : Nat → Nat := fun j => if j < i + k then dg (low n (i + 1) * m) j else dg (low n i * m) j
set_option maxRecDepth 100000 in
set_option maxHeartbeats 1000000 in
theorem times_any (n m : Nat) (w : World) (hn : n < 65536 ^ 8) (hm : m < 65536 ^ 8) :
    Calls Try.prog 117 #[.agg (bigC n), .agg (bigC m)] w fun e w' => e = .returned (.agg (bigC (n * m))) ∧ Below w.heap.size w w' := by
  have HN := Lib.hid hn
  have HM := Lib.hid hm
  clear hn hm
  go_enter Try.func117, Try.ntmps117
  go_wp2_with (fail)
  go_loopw [6] (fun i wr => ∃ k : Nat, k ≤ 8 ∧ i = .int .i64 k ∧ blk wr w.heap.size (bigC n) 176 ∧ blk wr (w.heap.size + 1) (bigC m) 176 ∧ blk wr (w.heap.size + 1 + 1) (bigC 0) 176 ∧ blk wr (w.heap.size + 1 + 1 + 1) (bigC (low n k * m)) 176 ∧ Below w.heap.size w wr) (fun i _ => 8 - (intOf i).toNat)
  case atStart =>
    refine ⟨0, by omega, rfl, (((blk.new _ _ _).alloc _).alloc _).alloc _, ((blk.new' (by simp)).alloc _).alloc _, ?_, ?_, by go_grown⟩
    · rw [zero_eq_big]; exact (blk.new' (by simp)).alloc _
    · rw [zero_eq_big, low_zero, Nat.zero_mul]; exact blk.new' (by simp)
  case round =>
    obtain ⟨i, hi, rfl, ha, hb, hr, hx, hB⟩ := hrel
    by_cases hlt : i < 8
    · have ca : wr.cell? ⟨w.heap.size, i, none⟩ = some (.int .u64 (dg n i : Nat)) := ha.cellIs (fnC_get _ (by omega))
      have hd1 := dg_lt n i
      go_wp2_with (fail)
      clear ca
      obtain ⟨wo, rfl⟩ : ∃ wo : World, wo = wr := ⟨_, rfl⟩
      go_loopw [7, 8] (fun c k wi => ∃ j : Nat, j ≤ 9 ∧ k = .int .i64 j ∧ c = .int .u64 (carryM (low n i * m / 65536 ^ i) (dg n i) m j : Nat) ∧ blk wi w.heap.size (bigC n) 176 ∧ blk wi (w.heap.size + 1) (bigC m) 176 ∧ blk wi (w.heap.size + 1 + 1) (bigC 0) 176 ∧ blk wi (w.heap.size + 1 + 1 + 1) (fnC (mixT n m i j)) 176 ∧ Below w.heap.size w wi) (fun _ k _ => 9 - (intOf k).toNat)
      case atStart =>
        refine ⟨0, by omega, rfl, by rw [carryM_zero]; rfl, ha, hb, hr, ?_, hB⟩
        rw [show mixT n m i 0 = dg (low n i * m) from funext fun j => by simp only [mixT]; split <;> first | rfl | exact mul_lower (by omega)]
        exact hx
      case round =>
        obtain ⟨j, hj, rfl, rfl, ha, hb, hr, hx, hB⟩ := hrel
        by_cases hlt2 : j < 9
        · have ca : wr.cell? ⟨w.heap.size, i, none⟩ = some (.int .u64 (dg n i : Nat)) := ha.cellIs (fnC_get _ (by omega))
          have cb : wr.cell? ⟨w.heap.size + 1, j, none⟩ = some (.int .u64 (dg m j : Nat)) := hb.cellIs (fnC_get _ (by omega))
          have cx : wr.cell? ⟨w.heap.size + 1 + 1 + 1, i + j, none⟩ = some (.int .u64 (dg (low n i * m) (i + j) : Nat)) := hx.cellIs (by rw [fnC_get _ (by omega)]; simp only [mixT, if_neg (Nat.lt_irrefl _)])
          have fx : wr.frozen? ⟨w.heap.size + 1 + 1 + 1, i + j, none⟩ = false := hx.free _
          have hd2 := dg_lt m j
          have hd3 := dg_lt (low n i * m) (i + j)
          have hc := carryM_le (low n i * m / 65536 ^ i) (dg n i) m j
          have hm1 : dg n i * dg m j ≤ 65535 * 65535 := Nat.mul_le_mul (by omega) (by omega)
          go_wp2_with (fail)
          go_quiet (fail)
          go_wp2_with (fail)
          have ed : dg (low n i * m) (i + j) = dg (low n i * m / 65536 ^ i) j := dg_add _ _ _
          go_roundw
          case rel =>
            refine ⟨j + 1, by omega, by go_num, ?_, (ha.drewN _).setOther (by simp <;> omega) _, (hb.drewN _).setOther (by simp <;> omega) _, (hr.drewN _).setOther (by simp) _, ?_, (below_drewN hB _).setCell (by simp <;> omega) _⟩
            · rw [← mul_carry, ed]; simp
            · refine (hx.drewN _).set' (fnC_set (by omega) ?_ ?_)
              · simp only [mixT, if_pos (show i + j < i + (j + 1) by omega), mul_inner, ← mul_digit, ed]; simp
              · intro s _ hs; simp only [mixT]; split <;> split <;> first | rfl | omega
          case measure => simp [intOf] <;> omega
        · obtain rfl : j = 9 := by omega
          go_wp2_with (fail)
          go_roundw
          case rel =>
            refine ⟨i + 1, by omega, by go_num, ha, hb, hr, ?_, hB⟩
            rw [show bigC (low n (i + 1) * m) = fnC (mixT n m i 9) from fnC_congr fun s hs => by
              simp only [mixT]; split
              · rfl
              · exact mul_upper HM.out (by omega)]
            exact hx
          case measure => simp [intOf] <;> omega
    · obtain rfl : i = 8 := by omega
      have hs := bigC_size (low n 8 * m)
      have H1 := Lib.hid hs
      clear hs
      go_wp2_with (first | (refine wpList_load_row rfl _ _ rfl _ rfl _ _ _ _ hx Try.underlying176 rfl (by rw [H1.out]; kernel_rfl) ?_) | (refine wpList_store_row rfl _ _ _ rfl _ rfl _ rfl _ _ hr (by rw [H1.out]; kernel_rfl) (by rw [H1.out, bigC_size]) (fnC_one _) ?_))
      refine bodyPost_ret (results_cell_row rfl _ _ _ _ _ _ _ rfl (hr.row _) Try.underlying176 rfl (by rw [H1.out]; kernel_rfl)) rfl ⟨?_, Below.setRow hB (by omega) _⟩
      rw [low_all HN.out]
end Go.Proofs.Ytkmelddejdikgaa
namespace Go.Proofs.Ytkmelddejdikgaa
open Go.RowKit PM
def mixZ (N k : Nat) : Nat → Nat := fun j => if j < k then dg N j else 0
set_option maxRecDepth 100000 in
set_option maxHeartbeats 1000000 in
theorem abs_any (a : Int) (w : World) (h0 : -9223372036854775808 ≤ a) (h1 : a ≤ 9223372036854775807) :
    Calls Try.prog 118 #[.int .i64 a] w fun e w' => e = .returned (.agg (bigC a.natAbs)) ∧ Below w.heap.size w w' := by
  obtain ⟨N, hN⟩ : ∃ N, N = a.natAbs := ⟨_, rfl⟩
  have hNb : N < 65536 ^ 4 := by omega
  rw [← hN]
  have e1 : a < 0 → IntKind.u64.wrap (-IntKind.u64.wrap a) = (N : Int) := by intro h; simp only [IntKind.wrap_u64]; omega
  have e2 : ¬ a < 0 → a = (N : Int) := by omega
  have HE1 := Lib.hid e1
  have HE2 := Lib.hid e2
  have HNN := Lib.hid hN
  have HB := Lib.hid hNb
  clear hN e1 e2 hNb
  by_cases ha : a < 0
  all_goals
    go_enter Try.func118, Try.ntmps118
    go_wp2_with (fail)
    first | rw [HE1.out ha] | skip
    go_loopw [3, 5] (fun n i wr => ∃ k : Nat, k ≤ 4 ∧ i = .int .i64 k ∧ n = .int .u64 (N / 65536 ^ k : Nat) ∧ blk wr w.heap.size (bigC 0) 176 ∧ blk wr (w.heap.size + 1) (fnC (mixZ N k)) 176 ∧ Below w.heap.size w wr) (fun _ i _ => 4 - (intOf i).toNat)
    case atStart =>
      refine ⟨0, by omega, rfl, ?_, ?_, ?_, by go_grown⟩
      · (rw [Nat.pow_zero, Nat.div_one]) <;> rw [← HE2.out ha]
      · rw [zero_eq_big]; exact (blk.new _ _ _).alloc _
      · rw [show fnC (mixZ N 0) = fnC (fun _ => 0) from fnC_congr fun i _ => by simp [mixZ], zero_big]; exact blk.new' (by simp)
    case round =>
      obtain ⟨k, hk, rfl, rfl, hr, hx, hB⟩ := hrel
      by_cases hlt : k < 4
      · have fx : wr.frozen? ⟨w.heap.size + 1, k, none⟩ = false := hx.free _
        have cx : wr.cell? ⟨w.heap.size + 1, k, none⟩ = some (.int .u64 (0 : Nat)) := hx.cellIs (by rw [fnC_get _ (by omega)]; simp [mixZ])
        have HD := Lib.hid (show N / 65536 ^ (k + 1) = N / 65536 ^ k / 65536 by rw [Nat.pow_succ, ← Nat.div_div_eq_div_mul])
        have HD2 := Lib.hid (show dg N k = N / 65536 ^ k % 65536 from rfl)
        have hlt2 : N / 65536 ^ k < 18446744073709551616 := Nat.lt_of_le_of_lt (Nat.div_le_self _ _) (Nat.lt_of_lt_of_le HB.out (by omega))
        obtain ⟨q, hq⟩ : ∃ q, q = N / 65536 ^ k := ⟨_, rfl⟩
        rw [← hq] at HD HD2 hlt2 ⊢
        clear hq
        go_wp2_with (fail)
        go_roundw
        case rel =>
          refine ⟨k + 1, by omega, by go_num, by rw [HD.out]; simp, hr.setOther (by simp <;> omega) _, ?_, hB.setCell (by simp <;> omega) _⟩
          refine hx.set' (fnC_set (by omega) ?_ ?_)
          · simp only [mixZ, if_pos (Nat.lt_succ_self k), HD2.out]; simp
          · intro j _ hj; simp only [mixZ]; split <;> split <;> first | rfl | omega
        case measure => simp [intOf] <;> omega
      · obtain rfl : k = 4 := by omega
        have hs := fnC_size (mixZ N 4)
        have H1 := Lib.hid hs
        clear hs
        go_wp2_with (first | (refine wpList_load_row rfl _ _ rfl _ rfl _ _ _ _ hx Try.underlying176 rfl (by rw [H1.out]; kernel_rfl) ?_) | (refine wpList_store_row rfl _ _ _ rfl _ rfl _ rfl _ _ hr (by rw [H1.out]; kernel_rfl) (by rw [H1.out, bigC_size]) (fnC_one _) ?_))
        refine bodyPost_ret (results_cell_row rfl _ _ _ _ _ _ _ rfl (hr.row _) Try.underlying176 rfl (by rw [H1.out]; kernel_rfl)) rfl ⟨?_, Below.setRow hB (by omega) _⟩
        rw [show fnC (mixZ N 4) = bigC N from fnC_congr fun i _ => by
          simp only [mixZ]; split
          · rfl
          · rw [dg_high HB.out (by omega)]]
set_option maxRecDepth 100000 in
set_option maxHeartbeats 1000000 in
theorem rsigned_any (n : Nat) (neg : Bool) (w : World) (hn : n < 65536 ^ 17) :
    Calls Try.prog 161 #[.bool neg, .agg (bigC n)] w fun e w' => e = .returned (.tuple #[.int .i64 (fitV (sgn neg n)), .int .i64 (fitE (sgn neg n))]) ∧ Below w.heap.size w w' := by
  have c0 : (bigC n)[0]? = some (.int .u64 (dg n 0 : Nat)) := fnC_get _ (by omega)
  have c1 : (bigC n)[1]? = some (.int .u64 (dg n 1 : Nat)) := fnC_get _ (by omega)
  have c2 : (bigC n)[2]? = some (.int .u64 (dg n 2 : Nat)) := fnC_get _ (by omega)
  have c3 : (bigC n)[3]? = some (.int .u64 (dg n 3 : Nat)) := fnC_get _ (by omega)
  have d0 := dg_lt n 0
  have d1 := dg_lt n 1
  have d2 := dg_lt n 2
  have d3 := dg_lt n 3
  have HN := Lib.hid hn
  clear hn
  go_enter Try.func161, Try.ntmps161
  go_wp2_with (fail)
  have HL : Hid ((dg n 0 : Int) + (dg n 1 : Int) * 65536 + (dg n 2 : Int) * 65536 * 65536 + (dg n 3 : Int) * 65536 * 65536 * 65536 = (low n 4 : Nat)) := by
    have : low n 4 = dg n 0 + dg n 1 * 65536 + dg n 2 * 65536 * 65536 + dg n 3 * 65536 * 65536 * 65536 := by
      rw [low_succ, low_succ, low_succ, low_succ, low_zero]; omega
    show _ = _
    rw [this]; simp
  have hL := low_lt n 4
  rw [HL.out]
  clear c0 c1 c2 c3 d0 d1 d2 d3 HL
  obtain ⟨L, hLe⟩ : ∃ L, L = low n 4 := ⟨_, rfl⟩
  rw [← hLe] at hL ⊢
  have HLE := Lib.hid hLe
  clear hLe
  go_loopw [7] (fun i wr => ∃ k : Nat, 4 ≤ k ∧ k ≤ 17 ∧ i = .int .i64 k ∧ Hid (∀ j, 4 ≤ j → j < k → dg n j = 0) ∧ blk wr w.heap.size (bigC n) 176 ∧ Below w.heap.size w wr) (fun i _ => 17 - (intOf i).toNat)
  case atStart => exact ⟨4, by omega, by omega, rfl, fun j h1 h2 => by omega, blk.new _ _ _, by go_grown⟩
  case round =>
    obtain ⟨k, hk4, hk, rfl, hz, ha, hB⟩ := hrel
    by_cases hlt : k < 17
    · have ca : wr.cell? ⟨w.heap.size, k, none⟩ = some (.int .u64 (dg n k : Nat)) := ha.cellIs (fnC_get _ hlt)
      by_cases hd : dg n k = 0
      · have hd' : ((dg n k : Int) != 0) = false := by rw [hd]; rfl
        have HD := Lib.hid hd
        clear hd
        go_wp2_with (fail)
        go_roundw
        case rel =>
          refine ⟨k + 1, by omega, by omega, by go_num, ?_, ha, hB⟩
          intro j h1 h2
          by_cases e : j = k
          · subst e; exact HD.out
          · exact hz.out j h1 (by omega)
        case measure => simp [intOf] <;> omega
      · have hd' : ((dg n k : Int) != 0) = true := by simp <;> omega
        have hbig : 18446744073709551616 ≤ n := by
          apply Nat.le_of_not_lt; intro hlt'
          exact hd (dg_high (k := 4) (by omega) hk4)
        have HD := Lib.hid hbig
        clear hd hbig
        go_wp2_with (fail)
        go_ret2
        have hf : inI (sgn neg n) = false := by
          have := HD.out
          cases neg <;> simp [inI, sgn] <;> omega
        exact ⟨ret2I (fitV_no hf).symm (fitE_no hf).symm, hB⟩
    · obtain rfl : k = 17 := by omega
      have hnL : n = L := by
        have hnb : n < 65536 ^ 4 := by
          have := split_low n 4
          have h0 : n / 65536 ^ 4 = 0 := by
            apply eq_of_dg 17 (Nat.lt_of_le_of_lt (Nat.div_le_self _ _) HN.out) (by simp)
            intro s hs
            rw [← dg_add, show dg 0 s = 0 by simp [dg]]
            rcases Nat.lt_or_ge (4 + s) 17 with h | h
            · exact hz.out _ (by omega) h
            · exact dg_high HN.out h
          rw [h0, Nat.mul_zero, Nat.zero_add] at this
          rw [this]; exact low_lt n 4
        rw [HLE.out, low_all hnb]
      have HNL := Lib.hid hnL
      clear hnL hL
      by_cases h1 : L ≤ 9223372036854775807
      · have hb1 : ((L : Int) == 9223372036854775808) = false := by simp <;> omega
        cases neg
        all_goals
          go_wp2_with (fail)
          go_ret2
          have hf : ∀ neg, inI (sgn neg n) = true := by
            intro neg; rw [HNL.out]; cases neg <;> simp [inI, sgn] <;> omega
          refine ⟨ret2I ((Eq.trans ?_ (fitV_yes (hf _)).symm)) (fitE_yes (hf _)).symm, hB⟩
          simp only [sgn, HNL.out, if_true, if_false, Bool.false_eq_true, wrap64, IntKind.wrap_u64] <;> omega
      · by_cases h2 : L = 9223372036854775808
        · subst h2
          cases neg
          · go_wp2_with (fail)
            go_ret2
            have hf : inI (sgn false n) = false := by
              simp only [inI, sgn, HNL.out]; decide
            exact ⟨ret2I (fitV_no hf).symm (fitE_no hf).symm, hB⟩
          · go_wp2_with (fail)
            go_ret2
            have hf : inI (sgn true n) = true := by
              simp only [inI, sgn, HNL.out]; decide
            refine ⟨ret2I ((Eq.trans ?_ (fitV_yes hf).symm)) (fitE_yes hf).symm, hB⟩
            rw [show sgn true n = -9223372036854775808 from by rw [HNL.out]; rfl]
            simp only [wrap64, IntKind.wrap_u64]; rfl
        · have h3 : 9223372036854775808 < L := by omega
          clear h2
          go_wp2_with (fail)
          all_goals
            go_ret2
            have hf : ∀ neg, inI (sgn neg n) = false := by
              intro neg; rw [HNL.out]; cases neg <;> simp [inI, sgn] <;> omega
            exact ⟨ret2I (fitV_no (hf _)).symm (fitE_no (hf _)).symm, hB⟩
end Go.Proofs.Ytkmelddejdikgaa
namespace Go.Proofs.Ytkmelddejdikgaa
open Go.RowKit PM Dt
def SQ (w : World) (n m q : Nat) (w' : World) : Prop := blk w' w.heap.size (bigC n) 176 ∧ blk w' (w.heap.size + 1) (bigC m) 176 ∧ blk w' (w.heap.size + 1 + 1) (bigC 0) 176 ∧ blk w' (w.heap.size + 1 + 1 + 1) (bigC q) 176 ∧ Below w.heap.size w w'
theorem SQ.drew {w : World} {n m q : Nat} {w' : World} (h : SQ w n m q w') : SQ w n m q w'.drew :=
  ⟨h.1.drew, h.2.1.drew, h.2.2.1.drew, h.2.2.2.1.drew, h.2.2.2.2.drew⟩
theorem SQ.alloc {w : World} {n m q : Nat} {w' : World} (h : SQ w n m q w') (o : Obj) : SQ w n m q (w'.alloc o) :=
  ⟨h.1.alloc _, h.2.1.alloc _, h.2.2.1.alloc _, h.2.2.2.1.alloc _, h.2.2.2.2.alloc (by have := h.1.lt; omega) _⟩
theorem SQ.below {w : World} {n m q : Nat} {w' w2 : World} (h : SQ w n m q w') (hB : Below w'.heap.size w' w2) : SQ w n m q w2 :=
  ⟨h.1.below hB h.1.lt, h.2.1.below hB h.2.1.lt, h.2.2.1.below hB h.2.2.1.lt, h.2.2.2.1.below hB h.2.2.2.1.lt, h.2.2.2.2.trans (hB.mono (by have := h.1.lt; omega))⟩
theorem SQ.row {w : World} {n m q : Nat} {w' : World} (h : SQ w n m q w') {g : Nat} (hg : w.heap.size + 1 + 1 + 1 < g) (c : Array Value) : SQ w n m q (w'.setRow g c) :=
  ⟨h.1.rowOther (by omega) _, h.2.1.rowOther (by omega) _, h.2.2.1.rowOther (by omega) _, h.2.2.2.1.rowOther (by omega) _, Below.setRow h.2.2.2.2 (by omega) _⟩
theorem SQ.size {w : World} {n m q : Nat} {w' : World} (h : SQ w n m q w') : w.heap.size + 1 + 1 + 1 < w'.heap.size := h.2.2.2.1.lt
theorem SQ.setA {w : World} {n m q : Nat} {w' : World} (h : SQ w n m q w') (c : Nat) : SQ w c m q (w'.setRow w.heap.size (bigC c)) :=
  ⟨h.1.row _, h.2.1.rowOther (by omega) _, h.2.2.1.rowOther (by omega) _, h.2.2.2.1.rowOther (by omega) _, Below.setRow h.2.2.2.2 (by omega) _⟩
theorem SQ.setQ {w : World} {n m q : Nat} {w' : World} (h : SQ w n m q w') (c : Nat) : SQ w n m c (w'.setRow (w.heap.size + 1 + 1 + 1) (bigC c)) :=
  ⟨h.1.rowOther (by omega) _, h.2.1.rowOther (by omega) _, h.2.2.1.rowOther (by omega) _, h.2.2.2.1.row _, Below.setRow h.2.2.2.2 (by omega) _⟩
set_option maxRecDepth 100000 in
set_option maxHeartbeats 4000000 in
theorem quotient_any (n m : Nat) (w : World) (hn : n < 65536 ^ 16) (hm : 0 < m) (hm2 : m < 65536 ^ 17) :
    Calls Try.prog 168 #[.agg (bigC n), .agg (bigC m)] w fun e w' => e = .returned (.agg (bigC (n / m))) ∧ Below w.heap.size w w' := by
  have HN := Lib.hid hn
  have HM := Lib.hid hm
  have HM2 := Lib.hid hm2
  clear hn hm hm2
  go_enter Try.func168, Try.ntmps168
  go_wp2_with (fail)
  rw [zero_eq_big]
  have hS : SQ w n m 0 ((((w.alloc (.cells (bigC n) 176)).alloc (.cells (bigC m) 176)).alloc (.cells (bigC 0) 176)).alloc (.cells (bigC 0) 176)) :=
    ⟨(((blk.new _ _ _).alloc _).alloc _).alloc _, ((blk.new' (by simp)).alloc _).alloc _, (blk.new' (by simp)).alloc _, blk.new' (by simp), by go_grown⟩
  generalize ((((w.alloc (.cells (bigC n) 176)).alloc (.cells (bigC m) 176)).alloc (.cells (bigC 0) 176)).alloc (.cells (bigC 0) 176)) = w0 at *
  refine Code.wp_mono (Q := fun e a w' => e = .normal ∧ ∃ b6 b7 : Nat, b6 ≠ b7 ∧ w.heap.size + 1 + 1 + 1 < b6 ∧ w.heap.size + 1 + 1 + 1 < b7 ∧ SQ w n m 0 w' ∧ blk w' b6 (bigC m) 176 ∧ blk w' b7 (bigC 1) 176 ∧
    a = { tmps := #[.agg (bigC n), .agg (bigC m), .pointer (some ⟨w.heap.size, 0, none⟩), .pointer (some ⟨w.heap.size + 1, 0, none⟩), .pointer (some ⟨w.heap.size + 1 + 1, 0, none⟩), .pointer (some ⟨w.heap.size + 1 + 1 + 1, 0, none⟩), .pointer (some ⟨b6, 0, none⟩), .pointer (some ⟨b7, 0, none⟩), .agg (bigC m), .agg (bigC 1), undef, undef, undef, undef, undef, undef, undef, undef, undef, undef, undef, undef, undef, undef, undef, undef, undef, undef, undef, undef, undef, undef, undef, undef, undef, undef, undef, undef], defers := [] }) ?_ ?_
  · rintro e a w' ⟨rfl, b6, b7, h67, l6, l7, s, p6, p7, rfl⟩
    clear hS
    have hmm : m * 2 ^ 0 = m := by simp
    go_wp2_with (fail)
    go_loopg [] (n + 1) (fun k wr => ∃ t : Nat, n + 1 - m * 2 ^ t ≤ k ∧ m * 2 ^ t < 65536 ^ 17 ∧ SQ w n m 0 wr ∧ blk wr b6 (bigC (m * 2 ^ t)) 176 ∧ blk wr b7 (bigC (2 ^ t)) 176)
    case atStart => exact ⟨0, by omega, by rw [hmm]; exact HM2.out, s, by rw [hmm]; exact p6, p7⟩
    case round =>
      clear s p6 p7 hmm
      obtain ⟨t, hk, hb17, s, p6, p7⟩ := hrel
      have HK := Lib.hid hk
      have HB := Lib.hid hb17
      clear hk hb17
      by_cases hlt : n < m * 2 ^ t
      · have hd : decide (n < m * 2 ^ t) = true := decide_eq_true hlt
        have HLT := Lib.hid hlt
        clear hlt
        go_upto_region 6 with (first | (refine wpList_load_row rfl _ _ rfl _ rfl _ _ _ _ s.1 Try.underlying176 rfl (by rw [bigC_size]; kernel_rfl) ?_) | (refine wpList_load_row rfl _ _ rfl _ rfl _ _ _ _ p6 Try.underlying176 rfl (by rw [bigC_size]; kernel_rfl) ?_) | (go_at_call 167; refine (less_any n (m * 2 ^ t) _ (Nat.lt_trans HN.out (by omega)) HB.out).mono ?_; rintro e w1 ⟨rfl, hb⟩))
        replace s := s.below hb
        replace p6 := p6.below hb p6.lt
        replace p7 := p7.below hb p7.lt
        clear hb hd wr
        -- the second loop: from the greatest multiple downward
        go_loopg [] t (fun k wr => ∃ N q : Nat, Hid (n = m * q + N) ∧ Hid (N < m * 2 ^ k) ∧ Hid (m * 2 ^ k < 65536 ^ 17) ∧ SQ w N m q wr ∧ blk wr b6 (bigC (m * 2 ^ k)) 176 ∧ blk wr b7 (bigC (2 ^ k)) 176)
        case atStart => exact ⟨n, 0, by show _ = _; omega, HLT, HB, s, p6, p7⟩
        case round =>
          clear s p6 p7
          obtain ⟨N, q, hnq, hNb, hmb, s, p6, p7⟩ := hrel
          have h2k : 2 ^ gk < 65536 ^ 17 := Nat.lt_of_le_of_lt (Nat.le_mul_of_pos_left _ HM.out) hmb.out
          have H2K := Lib.hid h2k
          have HE := Lib.hid (fun wx => run_equalIn_big (2 ^ gk) 1 h2k (by omega) wx)
          clear h2k
          go_upto_region 6 with (fail)
          refine wp_region_X 2 (by kernel_rfl) (by kernel_rfl) ?_
          generalize hgw : wr.drew = wo at *
          replace s : SQ w N m q wo := by rw [← hgw]; exact s.drew
          replace p6 : blk wo b6 (bigC (m * 2 ^ gk)) 176 := by rw [← hgw]; exact p6
          replace p7 : blk wo b7 (bigC (2 ^ gk)) 176 := by rw [← hgw]; exact p7
          clear hgw
          refine wpX_take 0 (.agg (bigC (2 ^ gk))) rfl rfl (by kernel_rfl) (fun w1 h1 => detR_row _ _ rfl _ rfl _ _ _ (p7.below h1 p7.lt) Try.underlying176 rfl (by rw [bigC_size]; kernel_rfl) rfl) ?_
          simp only [Act.put, sIT, sCZ, sCS]
          refine wpX_take 1 (.agg (bigC 1)) rfl rfl (by kernel_rfl) (fun w1 h1 => ?_) ?_
          · go_simp
            refine (abs_any 1 _ (by omega) (by omega)).mono ?_
            rintro e w2 ⟨rfl, h2⟩
            exact ⟨rfl, h2⟩
          simp only [Act.put, sIT, sCZ, sCS]
          refine wpX_tail (by kernel_rfl) (fun wt ht => ?_)
          simp only [List.drop_succ_cons, List.drop_zero]
          replace s := s.below ht
          replace p6 := p6.below ht p6.lt
          replace p7 := p7.below ht p7.lt
          clear ht
          by_cases hk0 : gk = 0
          · obtain rfl : gk = 0 := hk0
            have hq0 : ∀ wx, (Op.equalIn 10000 176 (.agg (bigC (2 ^ 0))) (.agg (bigC 1))).run Try.prog wx = .ok true wx := HE.out
            have H1 := Lib.hid (bigC_size q)
            go_wp2_with (first | (refine wpList_load_row rfl _ _ rfl _ rfl _ _ _ _ s.2.2.2.1 Try.underlying176 rfl (by rw [bigC_size]; kernel_rfl) ?_) | (refine wpList_store_row rfl _ _ _ rfl _ rfl _ rfl _ _ s.2.2.1 (by rw [bigC_size]; kernel_rfl) (by rw [bigC_size, bigC_size]) (fnC_one _) ?_))
            refine bodyPost_ret (results_cell_row rfl _ _ _ _ _ _ _ rfl (s.2.2.1.row _) Try.underlying176 rfl (by rw [H1.out]; kernel_rfl)) rfl ⟨?_, Below.setRow s.2.2.2.2 (by omega) _⟩
            have e1 := hnq.out
            have e2 := hNb.out
            rw [Nat.pow_zero, Nat.mul_one] at e2
            have : n / m = q := by
              rw [e1, Nat.mul_add_div HM.out, Nat.div_eq_of_lt e2, Nat.add_zero]
            rw [this]
          · have hq0 : ∀ wx, (Op.equalIn 10000 176 (.agg (bigC (2 ^ gk))) (.agg (bigC 1))).run Try.prog wx = .ok false wx := by
              intro wx; rw [HE.out wx]; congr 1
              simp; exact hk0
            go_upto_region 7 with (fail)
            clear HE hq0
            obtain ⟨j, rfl⟩ : ∃ j, gk = j + 1 := ⟨gk - 1, by omega⟩
            clear hk0
            refine wp_region_X 4 (by kernel_rfl) (by kernel_rfl) ?_
            generalize hgw : wt.drew = wo at *
            replace s : SQ w N m q wo := by rw [← hgw]; exact s.drew
            replace p6 : blk wo b6 (bigC (m * 2 ^ (j + 1))) 176 := by rw [← hgw]; exact p6
            replace p7 : blk wo b7 (bigC (2 ^ (j + 1))) 176 := by rw [← hgw]; exact p7
            clear hgw
            refine wpX_take 0 (.agg (bigC (m * 2 ^ (j + 1)))) rfl rfl (by kernel_rfl) (fun w1 h1 => detR_row _ _ rfl _ rfl _ _ _ (p6.below h1 p6.lt) Try.underlying176 rfl (by rw [bigC_size]; kernel_rfl) rfl) ?_
            simp only [Act.put, sIT, sCZ, sCS]
            refine wpX_take 1 (.agg (bigC (m * 2 ^ (j + 1) / 2))) rfl rfl (by kernel_rfl) (fun w1 h1 => ?_) ?_
            · go_simp
              refine (half_any (m * 2 ^ (j + 1)) _ hmb.out).mono ?_
              rintro e w2 ⟨rfl, h2⟩
              exact ⟨rfl, h2⟩
            simp only [Act.put, sIT, sCZ, sCS]
            refine wpX_take 2 (.agg (bigC (2 ^ (j + 1)))) rfl rfl (by kernel_rfl) (fun w1 h1 => detR_row _ _ rfl _ rfl _ _ _ (p7.below h1 p7.lt) Try.underlying176 rfl (by rw [bigC_size]; kernel_rfl) rfl) ?_
            simp only [Act.put, sIT, sCZ, sCS]
            refine wpX_take 3 (.agg (bigC (2 ^ (j + 1) / 2))) rfl rfl (by kernel_rfl) (fun w1 h1 => ?_) ?_
            · go_simp
              refine (half_any (2 ^ (j + 1)) _ H2K.out).mono ?_
              rintro e w2 ⟨rfl, h2⟩
              exact ⟨rfl, h2⟩
            simp only [Act.put, sIT, sCZ, sCS]
            refine wpX_tail (by kernel_rfl) (fun wt ht => ?_)
            simp only [List.drop_succ_cons, List.drop_zero]
            replace s := s.below ht
            replace p6 := p6.below ht p6.lt
            replace p7 := p7.below ht p7.lt
            clear ht
            go_upto_region 8 with (first | (refine wpList_store_row rfl _ _ _ rfl _ rfl _ rfl _ _ p6 (by rw [bigC_size]; kernel_rfl) (by rw [bigC_size, bigC_size]) (fnC_one _) ?_) | (refine wpList_store_row rfl _ _ _ rfl _ rfl _ rfl _ _ (p7.rowOther (Ne.symm h67) _) (by rw [bigC_size]; kernel_rfl) (by rw [bigC_size, bigC_size]) (fnC_one _) ?_))
            have e6 : m * 2 ^ (j + 1) / 2 = m * 2 ^ j := by rw [Nat.pow_succ, ← Nat.mul_assoc, Nat.mul_div_cancel _ (by omega)]
            have e7 : 2 ^ (j + 1) / 2 = 2 ^ j := by rw [Nat.pow_succ, Nat.mul_div_cancel _ (by omega)]
            rw [e6, e7]
            replace s := (s.row l6 (bigC (m * 2 ^ j))).row l7 (bigC (2 ^ j))
            replace p6 := (p6.row (bigC (m * 2 ^ j))).rowOther h67 (bigC (2 ^ j))
            replace p7 := (p7.rowOther (Ne.symm h67) (bigC (m * 2 ^ j))).row (bigC (2 ^ j))
            generalize (wt.setRow b6 (bigC (m * 2 ^ j))).setRow b7 (bigC (2 ^ j)) = wr at *
            have HB6 := Lib.hid (show m * 2 ^ j < 65536 ^ 17 by
              have := hmb.out
              rw [Nat.pow_succ, ← Nat.mul_assoc] at this; omega)
            have HN17 := Lib.hid (show N < 65536 ^ 17 from Nat.lt_of_le_of_lt (by have := hnq.out; omega) (Nat.lt_trans HN.out (by omega)))
            have e8 : m * 2 ^ (j + 1) = m * 2 ^ j + m * 2 ^ j := by rw [Nat.pow_succ, ← Nat.mul_assoc]; omega
            have HNB := Lib.hid (show N < m * 2 ^ j + m * 2 ^ j by rw [← e8]; exact hNb.out)
            clear e6 e7 e8
            by_cases hlt : N < m * 2 ^ j
            · have hd : decide (N < m * 2 ^ j) = true := decide_eq_true hlt
              have HLT2 := Lib.hid hlt
              clear hlt
              go_wp2_with (first | (refine wpList_load_row rfl _ _ rfl _ rfl _ _ _ _ s.1 Try.underlying176 rfl (by rw [bigC_size]; kernel_rfl) ?_) | (refine wpList_load_row rfl _ _ rfl _ rfl _ _ _ _ p6 Try.underlying176 rfl (by rw [bigC_size]; kernel_rfl) ?_) | (go_at_call 167; refine (less_any N (m * 2 ^ j) _ HN17.out HB6.out).mono ?_; rintro e w1 ⟨rfl, hb⟩))
              go_roundg j
              case rel => exact ⟨N, q, hnq, HLT2, HB6, s.below hb, p6.below hb p6.lt, p7.below hb p7.lt⟩
              case measure => omega
            · have hd : decide (N < m * 2 ^ j) = false := decide_eq_false hlt
              have HLT2 := Lib.hid hlt
              clear hlt
              go_upto_region 9 with (first | (refine wpList_load_row rfl _ _ rfl _ rfl _ _ _ _ s.1 Try.underlying176 rfl (by rw [bigC_size]; kernel_rfl) ?_) | (refine wpList_load_row rfl _ _ rfl _ rfl _ _ _ _ p6 Try.underlying176 rfl (by rw [bigC_size]; kernel_rfl) ?_) | (go_at_call 167; refine (less_any N (m * 2 ^ j) _ HN17.out HB6.out).mono ?_; rintro e w1 ⟨rfl, hb⟩))
              replace s := s.below hb
              replace p6 := p6.below hb p6.lt
              replace p7 := p7.below hb p7.lt
              clear hb hd
              go_upto_region 10 with (first | (refine wpList_load_row rfl _ _ rfl _ rfl _ _ _ _ s.1 Try.underlying176 rfl (by rw [bigC_size]; kernel_rfl) ?_) | (refine wpList_load_row rfl _ _ rfl _ rfl _ _ _ _ p6 Try.underlying176 rfl (by rw [bigC_size]; kernel_rfl) ?_) | (go_at_call 169; refine (sub_any N (m * 2 ^ j) _ HN17.out (Nat.le_of_not_lt HLT2.out)).mono ?_; rintro e w2 ⟨rfl, hb⟩) | (refine wpList_store_row rfl _ _ _ rfl _ rfl _ rfl _ _ (s.below hb).1 (by rw [bigC_size]; kernel_rfl) (by rw [bigC_size, bigC_size]) (fnC_one _) ?_))
              replace s := (s.below hb).setA (N - m * 2 ^ j)
              replace p6 := (p6.below hb p6.lt).rowOther (g := w.heap.size) (by omega) (bigC (N - m * 2 ^ j))
              replace p7 := (p7.below hb p7.lt).rowOther (g := w.heap.size) (by omega) (bigC (N - m * 2 ^ j))
              clear hb
              simp only [Act.put, sIT, sCZ, sCS]
              generalize w2.setRow w.heap.size (bigC (N - m * 2 ^ j)) = w3 at *
              go_wp2_with (first | (refine wpList_load_row rfl _ _ rfl _ rfl _ _ _ _ s.2.2.2.1 Try.underlying176 rfl (by rw [bigC_size]; kernel_rfl) ?_) | (refine wpList_load_row rfl _ _ rfl _ rfl _ _ _ _ p7 Try.underlying176 rfl (by rw [bigC_size]; kernel_rfl) ?_) | (go_at_call 160; refine (add_any q (2 ^ j) _).mono ?_; rintro e w4 ⟨rfl, hb⟩) | (refine wpList_store_row rfl _ _ _ rfl _ rfl _ rfl _ _ (s.below hb).2.2.2.1 (by rw [bigC_size]; kernel_rfl) (by rw [bigC_size, bigC_size]) (fnC_one _) ?_))
              go_roundg j
              case rel =>
                refine ⟨N - m * 2 ^ j, q + 2 ^ j, ?_, ?_, HB6, (s.below hb).setQ _, ?_, ?_⟩
                · have h1 := hnq.out
                  have h2 := HLT2.out
                  show n = m * (q + 2 ^ j) + (N - m * 2 ^ j)
                  rw [Nat.mul_add]; omega
                · have h1 := HNB.out
                  have h2 := HLT2.out
                  show N - m * 2 ^ j < m * 2 ^ j
                  omega
                · exact (p6.below hb p6.lt).rowOther (by omega) _
                · exact (p7.below hb p7.lt).rowOther (by omega) _
              case measure => omega
      · have hd : decide (n < m * 2 ^ t) = false := decide_eq_false hlt
        have HLT := Lib.hid hlt
        clear hlt
        go_upto_region 4 with (first | (refine wpList_load_row rfl _ _ rfl _ rfl _ _ _ _ s.1 Try.underlying176 rfl (by rw [bigC_size]; kernel_rfl) ?_) | (refine wpList_load_row rfl _ _ rfl _ rfl _ _ _ _ p6 Try.underlying176 rfl (by rw [bigC_size]; kernel_rfl) ?_) | (go_at_call 167; refine (less_any n (m * 2 ^ t) _ (Nat.lt_trans HN.out (by omega)) HB.out).mono ?_; rintro e w1 ⟨rfl, hb⟩))
        replace s := s.below hb
        replace p6 := p6.below hb p6.lt
        replace p7 := p7.below hb p7.lt
        clear hb hd
        go_upto_region 5 with (first | (refine wpList_load_row rfl _ _ rfl _ rfl _ _ _ _ p6 Try.underlying176 rfl (by rw [bigC_size]; kernel_rfl) ?_) | (go_at_call 160; refine (add_any (m * 2 ^ t) (m * 2 ^ t) _).mono ?_; rintro e w2 ⟨rfl, hb⟩) | (refine wpList_store_row rfl _ _ _ rfl _ rfl _ rfl _ _ (p6.below hb p6.lt) (by rw [bigC_size]; kernel_rfl) (by rw [bigC_size, bigC_size]) (fnC_one _) ?_))
        replace s := (s.below hb).row l6 (bigC (m * 2 ^ t + m * 2 ^ t))
        replace p7 := (p7.below hb p7.lt).rowOther (Ne.symm h67) (bigC (m * 2 ^ t + m * 2 ^ t))
        replace p6 := (p6.below hb p6.lt).row (bigC (m * 2 ^ t + m * 2 ^ t))
        clear hb
        simp only [Act.put, sIT, sCZ, sCS]
        generalize w2.setRow b6 (bigC (m * 2 ^ t + m * 2 ^ t)) = w3 at *
        go_wp2_with (first | (refine wpList_load_row rfl _ _ rfl _ rfl _ _ _ _ p7 Try.underlying176 rfl (by rw [bigC_size]; kernel_rfl) ?_) | (go_at_call 160; refine (add_any (2 ^ t) (2 ^ t) _).mono ?_; rintro e w4 ⟨rfl, hb⟩) | (refine wpList_store_row rfl _ _ _ rfl _ rfl _ rfl _ _ (p7.below hb p7.lt) (by rw [bigC_size]; kernel_rfl) (by rw [bigC_size, bigC_size]) (fnC_one _) ?_))
        go_roundg (n + 1 - m * 2 ^ (t + 1))
        case rel =>
          have hp : m * 2 ^ (t + 1) = m * 2 ^ t + m * 2 ^ t := by rw [Nat.pow_succ, ← Nat.mul_assoc]; omega
          have hp2 : 2 ^ (t + 1) = 2 ^ t + 2 ^ t := by rw [Nat.pow_succ]; omega
          have h1 := HLT.out
          have h2 := HN.out
          refine ⟨t + 1, Nat.le_refl _, by omega, ?_, ?_, ?_⟩
          · exact (s.below hb).row l7 _
          · rw [hp]; exact (p6.below hb p6.lt).rowOther h67 _
          · rw [hp2]; exact (p7.below hb p7.lt).row _
        case measure =>
          have hp : m * 2 ^ (t + 1) = m * 2 ^ t + m * 2 ^ t := by rw [Nat.pow_succ, ← Nat.mul_assoc]; omega
          have h1 := HLT.out
          have h3 := HK.out
          have h4 : 0 < m * 2 ^ t := Nat.mul_pos HM.out (Nat.pos_of_ne_zero (by simp))
          omega
  · refine wp_region_X 4 (by kernel_rfl) (by kernel_rfl) ?_
    have hS := hS.drew
    generalize w0.drew = w0 at *
    refine wpX_take 0 (.agg (bigC m)) rfl rfl (by kernel_rfl) (fun w1 h1 => detR_row _ _ rfl _ rfl _ _ _ (hS.below h1).2.1 Try.underlying176 rfl (by rw [bigC_size]; kernel_rfl) rfl) ?_
    simp only [Act.put, sIT, sCZ, sCS]
    refine wpX_take 1 (.agg (bigC 1)) rfl rfl (by kernel_rfl) (fun w1 h1 => ?_) ?_
    · go_simp
      refine (abs_any 1 _ (by omega) (by omega)).mono ?_
      rintro e w2 ⟨rfl, h2⟩
      exact ⟨rfl, h2⟩
    simp only [Act.put, sIT, sCZ, sCS]
    refine wpX_two 2 3 rfl rfl rfl rfl (by omega) (by omega) (by kernel_rfl) ?_ ?_
    · intro w1 h1 K hK
      go_simp
      rw [zero_eq_big]
      refine hK _ _ ((Below.refl _ _).alloc (Nat.le_refl _) _) ?_
      have s1 := (hS.below h1).alloc (.cells (bigC 0) 176)
      have n1 := blk.new w1 (bigC 0) 176
      have z1 := (hS.below h1).size
      have y1 : w1.heap.size < (w1.alloc (.cells (bigC 0) 176)).heap.size := n1.lt
      clear hK K h1
      generalize w1.heap.size = b6 at *
      generalize w1.alloc (.cells (bigC 0) 176) = w2 at *
      refine wpX_one 3 rfl rfl (by omega) (by kernel_rfl) (fun w3 h3 K hK => ?_)
      go_simp
      rw [zero_eq_big]
      refine hK _ _ ((Below.refl _ _).alloc (Nat.le_refl _) _) ?_
      have s3 := (s1.below h3).alloc (.cells (bigC 0) 176)
      have n2 := (n1.below h3 n1.lt).alloc (.cells (bigC 0) 176)
      have n3 := blk.new w3 (bigC 0) 176
      have z3 := h3.size
      have z4 := (s1.below h3).size
      clear hK K h3
      generalize w3.heap.size = b7 at *
      generalize w3.alloc (.cells (bigC 0) 176) = w4 at *
      refine wpX_tail (by kernel_rfl) (fun w5 h5 => ?_)
      have s5 := s3.below h5
      have m2 := n2.below h5 n2.lt
      have m3 := n3.below h5 n3.lt
      have hne : b6 ≠ b7 := by omega
      clear h5
      simp only [List.drop_succ_cons, List.drop_zero]
      refine wpList_store_row rfl _ _ _ rfl _ rfl _ rfl _ _ m2 (by rw [bigC_size]; kernel_rfl) (by rw [bigC_size, bigC_size]) (fnC_one _) ?_
      simp only [Act.put, sIT, sCZ, sCS]
      refine wpList_store_row rfl _ _ _ rfl _ rfl _ rfl _ _ (m3.rowOther (Ne.symm hne) _) (by rw [bigC_size]; kernel_rfl) (by rw [bigC_size, bigC_size]) (fnC_one _) ?_
      simp only [Act.put, sIT, sCZ, sCS]
      refine wpList_nil ⟨rfl, b6, b7, hne, by omega, by omega, (s5.row (by omega) _).row (by omega) _, ?_, ?_, rfl⟩
      · exact (m2.row _).rowOther hne _
      · exact (m3.rowOther (Ne.symm hne) _).row _
    · intro w1 h1 K hK
      go_simp
      rw [zero_eq_big]
      refine hK _ _ ((Below.refl _ _).alloc (Nat.le_refl _) _) ?_
      have s1 := (hS.below h1).alloc (.cells (bigC 0) 176)
      have n1 := blk.new w1 (bigC 0) 176
      have z1 := (hS.below h1).size
      have y1 : w1.heap.size < (w1.alloc (.cells (bigC 0) 176)).heap.size := n1.lt
      clear hK K h1
      generalize w1.heap.size = b7 at *
      generalize w1.alloc (.cells (bigC 0) 176) = w2 at *
      refine wpX_one 2 rfl rfl (by omega) (by kernel_rfl) (fun w3 h3 K hK => ?_)
      go_simp
      rw [zero_eq_big]
      refine hK _ _ ((Below.refl _ _).alloc (Nat.le_refl _) _) ?_
      have s3 := (s1.below h3).alloc (.cells (bigC 0) 176)
      have n2 := (n1.below h3 n1.lt).alloc (.cells (bigC 0) 176)
      have n3 := blk.new w3 (bigC 0) 176
      have z3 := h3.size
      have z4 := (s1.below h3).size
      clear hK K h3
      generalize w3.heap.size = b6 at *
      generalize w3.alloc (.cells (bigC 0) 176) = w4 at *
      refine wpX_tail (by kernel_rfl) (fun w5 h5 => ?_)
      have s5 := s3.below h5
      have m2 := n2.below h5 n2.lt
      have m3 := n3.below h5 n3.lt
      have hne : b6 ≠ b7 := by omega
      clear h5
      simp only [List.drop_succ_cons, List.drop_zero]
      refine wpList_store_row rfl _ _ _ rfl _ rfl _ rfl _ _ m3 (by rw [bigC_size]; kernel_rfl) (by rw [bigC_size, bigC_size]) (fnC_one _) ?_
      simp only [Act.put, sIT, sCZ, sCS]
      refine wpList_store_row rfl _ _ _ rfl _ rfl _ rfl _ _ (m2.rowOther (Ne.symm hne) _) (by rw [bigC_size]; kernel_rfl) (by rw [bigC_size, bigC_size]) (fnC_one _) ?_
      simp only [Act.put, sIT, sCZ, sCS]
      refine wpList_nil ⟨rfl, b6, b7, hne, by omega, by omega, (s5.row (by omega) _).row (by omega) _, ?_, ?_, rfl⟩
      · exact (m3.row _).rowOther hne _
      · exact (m2.rowOther (Ne.symm hne) _).row _
end Go.Proofs.Ytkmelddejdikgaa
namespace Go.Proofs.Ytkmelddejdikgaa
open Go.RowKit PM Dt
theorem nearest_n0 {a c : Nat} (h : ¬ c < a + a) (hc : 0 < c) : nearest (sgn true a) c = 0 := by
  unfold nearest sgn
  simp only [if_true]
  apply ediv_unique <;> omega
theorem nearest_n1 {a c : Nat} (hc : 0 < c) (hlt : c < a + a) (h : (a + a - c) / (c + c) * (c + c) = a + a - c) : nearest (sgn true a) c = sgn true ((a + a - c) / (c + c)) := by
  unfold nearest sgn
  simp only [if_true]
  generalize (a + a - c) / (c + c) = q at *
  have h' : (q : Int) * (c + c) = a + a - c := by
    have : ((q * (c + c) : Nat) : Int) = ((a + a - c : Nat) : Int) := by rw [h]
    rw [Int.natCast_sub (by omega)] at this
    simpa using this
  apply ediv_unique
  · grind
  · grind
  · omega
theorem nearest_n2 {a c : Nat} (hc : 0 < c) (hlt : c < a + a) (h : ¬ (a + a - c) / (c + c) * (c + c) = a + a - c) : nearest (sgn true a) c = sgn true ((a + a - c) / (c + c) + 1) := by
  unfold nearest sgn
  simp only [if_true]
  have h1 := Nat.div_add_mod (a + a - c) (c + c)
  have h2 := Nat.mod_lt (a + a - c) (show 0 < c + c by omega)
  rw [Nat.mul_comm] at h1
  generalize (a + a - c) / (c + c) = q at *
  generalize (a + a - c) % (c + c) = r at *
  have h3 : (q : Int) * (c + c) + r = a + a - c := by
    have : ((q * (c + c) + r : Nat) : Int) = ((a + a - c : Nat) : Int) := by rw [h1]
    rw [Int.natCast_sub (by omega)] at this
    simpa using this
  have h4 : r ≠ 0 := by omega
  apply ediv_unique
  · grind
  · grind
  · omega
theorem nearest_p {a c : Nat} (hc : 0 < c) : nearest (sgn false a) c = sgn false ((a + a + c) / (c + c)) := by
  unfold nearest sgn
  simp only [if_false, Bool.false_eq_true]
  have h1 := Nat.div_add_mod (a + a + c) (c + c)
  have h2 := Nat.mod_lt (a + a + c) (show 0 < c + c by omega)
  generalize (a + a + c) / (c + c) = q at *
  generalize (a + a + c) % (c + c) = r at *
  have h3 : ((c : Int) + c) * q + r = a + a + c := by
    have : (((c + c) * q + r : Nat) : Int) = ((a + a + c : Nat) : Int) := by rw [h1]
    simpa using this
  apply ediv_unique
  · grind
  · grind
  · omega
set_option maxRecDepth 100000 in
set_option maxHeartbeats 4000000 in
theorem nearest_neg (a c : Nat) (w : World) (ha : a < 170141183460469231731687303715884105728) (hc0 : 0 < c) (hc : c < 65536 ^ 7) :
    Calls Try.prog 116 #[.bool true, .agg (bigC a), .agg (bigC c)] w fun e w' => e = .returned (.tuple #[.int .i64 (fitV (nearest (sgn true a) c)), .int .i64 (fitE (nearest (sgn true a) c))]) ∧ Below w.heap.size w w' := by
  have HA := Lib.hid ha
  have HC0 := Lib.hid hc0
  have HC := Lib.hid hc
  have HA17 := Lib.hid (show a + a < 65536 ^ 17 by omega)
  have HC17 := Lib.hid (show c < 65536 ^ 17 by omega)
  have HCC0 := Lib.hid (show 0 < c + c by omega)
  have HCC17 := Lib.hid (show c + c < 65536 ^ 17 by omega)
  have HCC8 := Lib.hid (show c + c < 65536 ^ 8 by omega)
  clear ha hc0 hc
  go_enter Try.func116, Try.ntmps116
  go_upto_region 1 with (fail)
  have p4 : blk ((w.alloc (.cells (bigC a) 176)).alloc (.cells (bigC c) 176)) w.heap.size (bigC a) 176 := (blk.new _ _ _).alloc _
  have p5 : blk ((w.alloc (.cells (bigC a) 176)).alloc (.cells (bigC c) 176)) (w.heap.size + 1) (bigC c) 176 := blk.new' (by simp)
  have hB : Below w.heap.size w ((w.alloc (.cells (bigC a) 176)).alloc (.cells (bigC c) 176)) := by go_grown
  generalize (w.alloc (.cells (bigC a) 176)).alloc (.cells (bigC c) 176) = w0 at *
  go_upto_region 2 with (first | (refine wpList_load_row rfl _ _ rfl _ rfl _ _ _ _ p4 Try.underlying176 rfl (by rw [bigC_size]; kernel_rfl) ?_) | (go_at_call 160; refine (add_any a a _).mono ?_; rintro e w1 ⟨rfl, hb⟩; replace p4 := p4.below hb p4.lt; replace p5 := p5.below hb p5.lt; replace hB := More.trans hB hb; clear hb) | (refine wpList_store_row rfl _ _ _ rfl _ rfl _ rfl _ _ (blk.new _ _ _) (by rw [bigC_size]; kernel_rfl) (by rw [bigC_size]; rfl) (fnC_one _) ?_))
  rw [World.setRow_alloc_new]
  have p8 := blk.new w1 (bigC (a + a)) 176
  have p8_p4 := p4.lt
  have p8_p5 := p5.lt
  replace p4 := p4.alloc (.cells (bigC (a + a)) 176)
  replace p5 := p5.alloc (.cells (bigC (a + a)) 176)
  replace hB := hB.alloc hB.size (.cells (bigC (a + a)) 176)
  simp only [Act.put, sIT, sCZ, sCS]
  generalize w1.heap.size = b8 at *
  generalize w1.alloc (.cells (bigC (a + a)) 176) = w2 at *
  by_cases hlt : c < a + a
  · have hd : decide (c < a + a) = true := decide_eq_true hlt
    have HLT := Lib.hid hlt
    clear hlt
    go_upto_region 5 with (first | (refine wpList_load_row rfl _ _ rfl _ rfl _ _ _ _ p5 Try.underlying176 rfl (by rw [bigC_size]; kernel_rfl) ?_) | (refine wpList_load_row rfl _ _ rfl _ rfl _ _ _ _ p8 Try.underlying176 rfl (by rw [bigC_size]; kernel_rfl) ?_) | (go_at_call 167; refine (less_any c (a + a) _ HC17.out HA17.out).mono ?_; rintro e w1 ⟨rfl, hb⟩; replace p4 := p4.below hb p4.lt; replace p5 := p5.below hb p5.lt; replace p8 := p8.below hb p8.lt; replace hB := More.trans hB hb; clear hb))
    obtain ⟨q, hq⟩ : ∃ q, q = (a + a - c) / (c + c) := ⟨_, rfl⟩
    have hq8 : q < 65536 ^ 8 := by
      rw [hq]; exact Nat.lt_of_le_of_lt (Nat.div_le_self _ _) (by have := HA.out; omega)
    have HQ := Lib.hid hq
    have HQ8 := Lib.hid hq8
    clear hq hq8
    refine wp_region_X 8 (by kernel_rfl) (by kernel_rfl) ?_
    refine wpX_take 0 (.agg (bigC (a + a))) rfl rfl (by kernel_rfl) (fun w1 h1 => detR_row _ _ rfl _ rfl _ _ _ (p8.drew.below h1 p8.lt) Try.underlying176 rfl (by rw [bigC_size]; kernel_rfl) rfl) ?_
    simp only [Act.put, sIT, sCZ, sCS]
    refine wpX_take 1 (.agg (bigC (c))) rfl rfl (by kernel_rfl) (fun w1 h1 => detR_row _ _ rfl _ rfl _ _ _ (p5.drew.below h1 p5.lt) Try.underlying176 rfl (by rw [bigC_size]; kernel_rfl) rfl) ?_
    simp only [Act.put, sIT, sCZ, sCS]
    refine wpX_take 2 (.agg (bigC (a + a - c))) rfl rfl (by kernel_rfl) (fun w1 h1 => ?_) ?_
    · go_simp
      refine (sub_any (a + a) c _ HA17.out (Nat.le_of_lt HLT.out)).mono ?_
      rintro e w2 ⟨rfl, h2⟩
      exact ⟨rfl, h2⟩
    simp only [Act.put, sIT, sCZ, sCS]
    refine wpX_take 3 (.agg (bigC (c))) rfl rfl (by kernel_rfl) (fun w1 h1 => detR_row _ _ rfl _ rfl _ _ _ (p5.drew.below h1 p5.lt) Try.underlying176 rfl (by rw [bigC_size]; kernel_rfl) rfl) ?_
    simp only [Act.put, sIT, sCZ, sCS]
    refine wpX_take 4 (.agg (bigC (c))) rfl rfl (by kernel_rfl) (fun w1 h1 => detR_row _ _ rfl _ rfl _ _ _ (p5.drew.below h1 p5.lt) Try.underlying176 rfl (by rw [bigC_size]; kernel_rfl) rfl) ?_
    simp only [Act.put, sIT, sCZ, sCS]
    refine wpX_take 5 (.agg (bigC (c + c))) rfl rfl (by kernel_rfl) (fun w1 h1 => ?_) ?_
    · go_simp
      refine (add_any c c _).mono ?_
      rintro e w2 ⟨rfl, h2⟩
      exact ⟨rfl, h2⟩
    simp only [Act.put, sIT, sCZ, sCS]
    refine wpX_take 6 (.agg (bigC q)) rfl rfl (by kernel_rfl) (fun w1 h1 => ?_) ?_
    · go_simp
      refine (HQ.out ▸ quotient_any (a + a - c) (c + c) _ (by have := HA.out; omega) HCC0.out HCC17.out).mono ?_
      rintro e w2 ⟨rfl, h2⟩
      exact ⟨rfl, h2⟩
    simp only [Act.put, sIT, sCZ, sCS]
    refine wpX_one 7 rfl rfl (by omega) (by kernel_rfl) (fun w3 h3 K hK => ?_)
    go_simp
    rw [zero_eq_big]
    refine hK _ _ ((Below.refl _ _).alloc (Nat.le_refl _) _) ?_
    clear hK K
    have p9 := blk.new w3 (bigC 0) 176
    have d4 := (p4.drew.below h3 p4.lt).lt
    have d5 := (p5.drew.below h3 p5.lt).lt
    have d8 := (p8.drew.below h3 p8.lt).lt
    replace p4 := (p4.drew.below h3 p4.lt).alloc (.cells (bigC 0) 176)
    replace p5 := (p5.drew.below h3 p5.lt).alloc (.cells (bigC 0) 176)
    replace p8 := (p8.drew.below h3 p8.lt).alloc (.cells (bigC 0) 176)
    replace hB := (More.trans hB.drew h3).alloc (More.trans hB.drew h3).size (.cells (bigC 0) 176)
    clear h3
    generalize w3.heap.size = b9 at *
    generalize w3.alloc (.cells (bigC 0) 176) = w4 at *
    refine wpX_tail (by kernel_rfl) (fun w5 hb => ?_)
    simp only [List.drop_succ_cons, List.drop_zero]
    replace p4 := p4.below hb p4.lt; replace p5 := p5.below hb p5.lt; replace p8 := p8.below hb p8.lt; replace p9 := p9.below hb p9.lt; replace hB := More.trans hB hb; clear hb
    go_upto_region 6 with (first | (refine wpList_store_row rfl _ _ _ rfl _ rfl _ rfl _ _ p9 (by rw [bigC_size]; kernel_rfl) (by rw [bigC_size, bigC_size]) (fnC_one _) ?_))
    replace p4 := p4.rowOther (g := b9) (by omega) (bigC q)
    replace p5 := p5.rowOther (g := b9) (by omega) (bigC q)
    replace p8 := p8.rowOther (g := b9) (by omega) (bigC q)
    replace p9 := p9.row (bigC q)
    replace hB := Below.setRow hB (g := b9) (by omega) (bigC q)
    simp only [Act.put, sIT, sCZ, sCS]
    generalize w5.setRow b9 (bigC q) = w6 at *
    have HP := Lib.hid (show q * (c + c) < 65536 ^ 17 by
      have h1 := HQ8.out; have h2 := HCC8.out
      have := Nat.mul_lt_mul'' h1 h2; omega)
    have HE := Lib.hid (fun wx => run_equalIn_big (q * (c + c)) (a + a - c) HP.out (by have := HA17.out; omega) wx)
    refine wp_region_X 8 (by kernel_rfl) (by kernel_rfl) ?_
    refine wpX_take 0 (.agg (bigC (q))) rfl rfl (by kernel_rfl) (fun w1 h1 => detR_row _ _ rfl _ rfl _ _ _ (p9.drew.below h1 p9.lt) Try.underlying176 rfl (by rw [bigC_size]; kernel_rfl) rfl) ?_
    simp only [Act.put, sIT, sCZ, sCS]
    refine wpX_take 1 (.agg (bigC (c))) rfl rfl (by kernel_rfl) (fun w1 h1 => detR_row _ _ rfl _ rfl _ _ _ (p5.drew.below h1 p5.lt) Try.underlying176 rfl (by rw [bigC_size]; kernel_rfl) rfl) ?_
    simp only [Act.put, sIT, sCZ, sCS]
    refine wpX_take 2 (.agg (bigC (c))) rfl rfl (by kernel_rfl) (fun w1 h1 => detR_row _ _ rfl _ rfl _ _ _ (p5.drew.below h1 p5.lt) Try.underlying176 rfl (by rw [bigC_size]; kernel_rfl) rfl) ?_
    simp only [Act.put, sIT, sCZ, sCS]
    refine wpX_take 3 (.agg (bigC (c + c))) rfl rfl (by kernel_rfl) (fun w1 h1 => ?_) ?_
    · go_simp
      refine (add_any c c _).mono ?_
      rintro e w2 ⟨rfl, h2⟩
      exact ⟨rfl, h2⟩
    simp only [Act.put, sIT, sCZ, sCS]
    refine wpX_take 4 (.agg (bigC (q * (c + c)))) rfl rfl (by kernel_rfl) (fun w1 h1 => ?_) ?_
    · go_simp
      refine (times_any q (c + c) _ HQ8.out HCC8.out).mono ?_
      rintro e w2 ⟨rfl, h2⟩
      exact ⟨rfl, h2⟩
    simp only [Act.put, sIT, sCZ, sCS]
    refine wpX_take 5 (.agg (bigC (a + a))) rfl rfl (by kernel_rfl) (fun w1 h1 => detR_row _ _ rfl _ rfl _ _ _ (p8.drew.below h1 p8.lt) Try.underlying176 rfl (by rw [bigC_size]; kernel_rfl) rfl) ?_
    simp only [Act.put, sIT, sCZ, sCS]
    refine wpX_take 6 (.agg (bigC (c))) rfl rfl (by kernel_rfl) (fun w1 h1 => detR_row _ _ rfl _ rfl _ _ _ (p5.drew.below h1 p5.lt) Try.underlying176 rfl (by rw [bigC_size]; kernel_rfl) rfl) ?_
    simp only [Act.put, sIT, sCZ, sCS]
    refine wpX_take 7 (.agg (bigC (a + a - c))) rfl rfl (by kernel_rfl) (fun w1 h1 => ?_) ?_
    · go_simp
      refine (sub_any (a + a) c _ HA17.out (Nat.le_of_lt HLT.out)).mono ?_
      rintro e w2 ⟨rfl, h2⟩
      exact ⟨rfl, h2⟩
    simp only [Act.put, sIT, sCZ, sCS]
    refine wpX_tail (by kernel_rfl) (fun wt hb => ?_)
    simp only [List.drop_succ_cons, List.drop_zero]
    replace p4 := p4.drew.below hb p4.lt
    replace p5 := p5.drew.below hb p5.lt
    replace p8 := p8.drew.below hb p8.lt
    replace p9 := p9.drew.below hb p9.lt
    replace hB := More.trans hB.drew hb
    clear hb
    by_cases hz : q * (c + c) = a + a - c
    · have hq0 : ∀ wx, (Op.equalIn 10000 176 (.agg (bigC (q * (c + c)))) (.agg (bigC (a + a - c)))).run Try.prog wx = .ok true wx := by
        intro wx; rw [HE.out wx]; congr 1; simp; exact hz
      have HZ := Lib.hid hz
      clear hz HE
      go_wp2_with (first | (refine wpList_load_row rfl _ _ rfl _ rfl _ _ _ _ p9 Try.underlying176 rfl (by rw [bigC_size]; kernel_rfl) ?_) | (go_at_call 161; refine (rsigned_any q true _ (Nat.lt_trans HQ8.out (by omega))).mono ?_; rintro e w1 ⟨rfl, hb⟩; replace p9 := p9.below hb p9.lt; replace hB := More.trans hB hb; clear hb))
      go_ret2
      have e1 := HQ.out
      have e2 := HZ.out
      have e3 : nearest (sgn true a) c = sgn true q := by rw [e1] at e2 ⊢; exact nearest_n1 HC0.out HLT.out e2
      exact ⟨ret2I (by rw [e3]) (by rw [e3]), hB⟩
    · have hq0 : ∀ wx, (Op.equalIn 10000 176 (.agg (bigC (q * (c + c)))) (.agg (bigC (a + a - c)))).run Try.prog wx = .ok false wx := by
        intro wx; rw [HE.out wx]; congr 1; simp; exact hz
      have HZ := Lib.hid hz
      clear hz HE
      go_upto_region 7 with (fail)
      clear hq0
      refine wp_region_X 3 (by kernel_rfl) (by kernel_rfl) ?_
      refine wpX_take 0 (.agg (bigC (q))) rfl rfl (by kernel_rfl) (fun w1 h1 => detR_row _ _ rfl _ rfl _ _ _ (p9.drew.below h1 p9.lt) Try.underlying176 rfl (by rw [bigC_size]; kernel_rfl) rfl) ?_
      simp only [Act.put, sIT, sCZ, sCS]
      refine wpX_take 1 (.agg (bigC 1)) rfl rfl (by kernel_rfl) (fun w1 h1 => ?_) ?_
      · go_simp
        refine (abs_any 1 _ (by omega) (by omega)).mono ?_
        rintro e w2 ⟨rfl, h2⟩
        exact ⟨rfl, h2⟩
      simp only [Act.put, sIT, sCZ, sCS]
      refine wpX_take 2 (.agg (bigC (q + 1))) rfl rfl (by kernel_rfl) (fun w1 h1 => ?_) ?_
      · go_simp
        refine (add_any q 1 _).mono ?_
        rintro e w2 ⟨rfl, h2⟩
        exact ⟨rfl, h2⟩
      simp only [Act.put, sIT, sCZ, sCS]
      refine wpX_tail (by kernel_rfl) (fun wt hb => ?_)
      simp only [List.drop_succ_cons, List.drop_zero]
      replace p4 := p4.drew.below hb p4.lt
      replace p5 := p5.drew.below hb p5.lt
      replace p8 := p8.drew.below hb p8.lt
      replace p9 := p9.drew.below hb p9.lt
      replace hB := More.trans hB.drew hb
      clear hb
      go_upto_region 8 with (first | (refine wpList_store_row rfl _ _ _ rfl _ rfl _ rfl _ _ p9 (by rw [bigC_size]; kernel_rfl) (by rw [bigC_size, bigC_size]) (fnC_one _) ?_))
      replace p9 := p9.row (bigC (q + 1))
      replace hB := Below.setRow hB (g := b9) (by omega) (bigC (q + 1))
      simp only [Act.put, sIT, sCZ, sCS]
      generalize wt.setRow b9 (bigC (q + 1)) = w7 at *
      go_wp2_with (first | (refine wpList_load_row rfl _ _ rfl _ rfl _ _ _ _ p9 Try.underlying176 rfl (by rw [bigC_size]; kernel_rfl) ?_) | (go_at_call 161; refine (rsigned_any (q + 1) true _ (by have := HQ8.out; omega)).mono ?_; rintro e w1 ⟨rfl, hb⟩; replace p9 := p9.below hb p9.lt; replace hB := More.trans hB hb; clear hb))
      go_ret2
      have e1 := HQ.out
      have e2 := HZ.out
      have e3 : nearest (sgn true a) c = sgn true (q + 1) := by rw [e1] at e2 ⊢; exact nearest_n2 HC0.out HLT.out e2
      exact ⟨ret2I (by rw [e3]) (by rw [e3]), hB⟩
  · have hd : decide (c < a + a) = false := decide_eq_false hlt
    have HLT := Lib.hid hlt
    clear hlt
    go_wp2_with (first | (refine wpList_load_row rfl _ _ rfl _ rfl _ _ _ _ p5 Try.underlying176 rfl (by rw [bigC_size]; kernel_rfl) ?_) | (refine wpList_load_row rfl _ _ rfl _ rfl _ _ _ _ p8 Try.underlying176 rfl (by rw [bigC_size]; kernel_rfl) ?_) | (go_at_call 167; refine (less_any c (a + a) _ HC17.out HA17.out).mono ?_; rintro e w1 ⟨rfl, hb⟩; replace p4 := p4.below hb p4.lt; replace p5 := p5.below hb p5.lt; replace p8 := p8.below hb p8.lt; replace hB := More.trans hB hb; clear hb))
    go_ret2
    have e3 := nearest_n0 HLT.out HC0.out
    exact ⟨ret2I (by rw [e3]; rfl) (by rw [e3]; rfl), hB⟩
set_option maxRecDepth 100000 in
set_option maxHeartbeats 4000000 in
theorem nearest_pos (a c : Nat) (w : World) (ha : a < 170141183460469231731687303715884105728) (hc0 : 0 < c) (hc : c < 65536 ^ 7) :
    Calls Try.prog 116 #[.bool false, .agg (bigC a), .agg (bigC c)] w fun e w' => e = .returned (.tuple #[.int .i64 (fitV (nearest (sgn false a) c)), .int .i64 (fitE (nearest (sgn false a) c))]) ∧ Below w.heap.size w w' := by
  have HA := Lib.hid ha
  have HC0 := Lib.hid hc0
  have HC := Lib.hid hc
  have HA17 := Lib.hid (show a + a < 65536 ^ 17 by omega)
  have HC17 := Lib.hid (show c < 65536 ^ 17 by omega)
  have HCC0 := Lib.hid (show 0 < c + c by omega)
  have HCC17 := Lib.hid (show c + c < 65536 ^ 17 by omega)
  have HCC8 := Lib.hid (show c + c < 65536 ^ 8 by omega)
  clear ha hc0 hc
  go_enter Try.func116, Try.ntmps116
  go_upto_region 1 with (fail)
  have p4 : blk ((w.alloc (.cells (bigC a) 176)).alloc (.cells (bigC c) 176)) w.heap.size (bigC a) 176 := (blk.new _ _ _).alloc _
  have p5 : blk ((w.alloc (.cells (bigC a) 176)).alloc (.cells (bigC c) 176)) (w.heap.size + 1) (bigC c) 176 := blk.new' (by simp)
  have hB : Below w.heap.size w ((w.alloc (.cells (bigC a) 176)).alloc (.cells (bigC c) 176)) := by go_grown
  generalize (w.alloc (.cells (bigC a) 176)).alloc (.cells (bigC c) 176) = w0 at *
  go_upto_region 2 with (first | (refine wpList_load_row rfl _ _ rfl _ rfl _ _ _ _ p4 Try.underlying176 rfl (by rw [bigC_size]; kernel_rfl) ?_) | (go_at_call 160; refine (add_any a a _).mono ?_; rintro e w1 ⟨rfl, hb⟩; replace p4 := p4.below hb p4.lt; replace p5 := p5.below hb p5.lt; replace hB := More.trans hB hb; clear hb) | (refine wpList_store_row rfl _ _ _ rfl _ rfl _ rfl _ _ (blk.new _ _ _) (by rw [bigC_size]; kernel_rfl) (by rw [bigC_size]; rfl) (fnC_one _) ?_))
  rw [World.setRow_alloc_new]
  have p8 := blk.new w1 (bigC (a + a)) 176
  have p8_p4 := p4.lt
  have p8_p5 := p5.lt
  replace p4 := p4.alloc (.cells (bigC (a + a)) 176)
  replace p5 := p5.alloc (.cells (bigC (a + a)) 176)
  replace hB := hB.alloc hB.size (.cells (bigC (a + a)) 176)
  simp only [Act.put, sIT, sCZ, sCS]
  generalize w1.heap.size = b8 at *
  generalize w1.alloc (.cells (bigC (a + a)) 176) = w2 at *
  go_upto_region 9 with (fail)
  obtain ⟨q, hq⟩ : ∃ q, q = (a + a + c) / (c + c) := ⟨_, rfl⟩
  have hq17 : q < 65536 ^ 17 := by
    rw [hq]; exact Nat.lt_of_le_of_lt (Nat.div_le_self _ _) (by have := HA.out; have := HC.out; omega)
  have HQ := Lib.hid hq
  have HQ17 := Lib.hid hq17
  clear hq hq17
  refine wp_region_X 10 (by kernel_rfl) (by kernel_rfl) ?_
  refine wpX_take 0 (.agg (bigC (a + a))) rfl rfl (by kernel_rfl) (fun w1 h1 => detR_row _ _ rfl _ rfl _ _ _ (p8.drew.below h1 p8.lt) Try.underlying176 rfl (by rw [bigC_size]; kernel_rfl) rfl) ?_
  simp only [Act.put, sIT, sCZ, sCS]
  refine wpX_take 1 (.agg (bigC (c))) rfl rfl (by kernel_rfl) (fun w1 h1 => detR_row _ _ rfl _ rfl _ _ _ (p5.drew.below h1 p5.lt) Try.underlying176 rfl (by rw [bigC_size]; kernel_rfl) rfl) ?_
  simp only [Act.put, sIT, sCZ, sCS]
  refine wpX_take 2 (.agg (bigC (a + a + c))) rfl rfl (by kernel_rfl) (fun w1 h1 => ?_) ?_
  · go_simp
    refine (add_any (a + a) c _).mono ?_
    rintro e w2 ⟨rfl, h2⟩
    exact ⟨rfl, h2⟩
  simp only [Act.put, sIT, sCZ, sCS]
  refine wpX_take 3 (.agg (bigC (c))) rfl rfl (by kernel_rfl) (fun w1 h1 => detR_row _ _ rfl _ rfl _ _ _ (p5.drew.below h1 p5.lt) Try.underlying176 rfl (by rw [bigC_size]; kernel_rfl) rfl) ?_
  simp only [Act.put, sIT, sCZ, sCS]
  refine wpX_take 4 (.agg (bigC (c))) rfl rfl (by kernel_rfl) (fun w1 h1 => detR_row _ _ rfl _ rfl _ _ _ (p5.drew.below h1 p5.lt) Try.underlying176 rfl (by rw [bigC_size]; kernel_rfl) rfl) ?_
  simp only [Act.put, sIT, sCZ, sCS]
  refine wpX_take 5 (.agg (bigC (c + c))) rfl rfl (by kernel_rfl) (fun w1 h1 => ?_) ?_
  · go_simp
    refine (add_any c c _).mono ?_
    rintro e w2 ⟨rfl, h2⟩
    exact ⟨rfl, h2⟩
  simp only [Act.put, sIT, sCZ, sCS]
  refine wpX_take 6 (.agg (bigC q)) rfl rfl (by kernel_rfl) (fun w1 h1 => ?_) ?_
  · go_simp
    refine (HQ.out ▸ quotient_any (a + a + c) (c + c) _ (by have := HA.out; have := HC.out; omega) HCC0.out HCC17.out).mono ?_
    rintro e w2 ⟨rfl, h2⟩
    exact ⟨rfl, h2⟩
  simp only [Act.put, sIT, sCZ, sCS]
  refine wpX_take 7 (.tuple #[.int .i64 (fitV (sgn false q)), .int .i64 (fitE (sgn false q))]) rfl rfl (by kernel_rfl) (fun w1 h1 => ?_) ?_
  · go_simp
    refine (rsigned_any q false _ HQ17.out).mono ?_
    rintro e w2 ⟨rfl, h2⟩
    exact ⟨rfl, h2⟩
  simp only [Act.put, sIT, sCZ, sCS]
  refine wpX_take 8 (.int .i64 (fitV (sgn false q))) rfl rfl (by kernel_rfl) (fun w1 h1 => ?_) ?_
  · go_simp
    exact ⟨rfl, Below.refl _ _⟩
  simp only [Act.put, sIT, sCZ, sCS]
  refine wpX_take 9 (.int .i64 (fitE (sgn false q))) rfl rfl (by kernel_rfl) (fun w1 h1 => ?_) ?_
  · go_simp
    exact ⟨rfl, Below.refl _ _⟩
  simp only [Act.put, sIT, sCZ, sCS]
  refine wpX_tail (by kernel_rfl) (fun wt hb => ?_)
  simp only [List.drop_succ_cons, List.drop_zero]
  replace p4 := p4.drew.below hb p4.lt
  replace p5 := p5.drew.below hb p5.lt
  replace p8 := p8.drew.below hb p8.lt
  replace hB := More.trans hB.drew hb
  clear hb
  go_wp2_with (fail)
  go_ret2
  have e1 := HQ.out
  have e3 : nearest (sgn false a) c = sgn false q := by rw [e1]; exact nearest_p HC0.out
  exact ⟨ret2I (by rw [e3]) (by rw [e3]), hB⟩
end Go.Proofs.Ytkmelddejdikgaa
namespace Go.Proofs.Ytkmelddejdikgaa
open Go.RowKit PM Dt
end Go.Proofs.Ytkmelddejdikgaa
