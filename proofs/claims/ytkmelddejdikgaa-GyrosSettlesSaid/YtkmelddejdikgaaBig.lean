/-
  The sum, the half and the comparison of numbers of 17 digits (package perigeeref01). The difference of numbers of 17 digits (package perigeeref01), for a subtrahend that is not greater. The product of numbers of 17 digits (package perigeeref01), for factors below 2^128. The digits of an absolute value, and a number with a sign out of its digits (package perigeeref01).
-/
import Derived.Test.YtkmelddejdikgaaBase
set_option linter.unusedSimpArgs false
set_option linter.unusedVariables false
namespace Go.Proofs.Ytkmelddejdikgaa
open Go.RowKit PM
def mixA (n m k : Nat) : Nat → Nat := fun i => if i < k then dg (n + m) i else dg n i
set_option maxRecDepth 100000 in
set_option maxHeartbeats 400000 in
theorem add_any (n m : Nat) (w : World)  :
    Calls Try.prog 160 #[.agg (bigC n), .agg (bigC m)] w fun e w' => e = .returned (.agg (bigC (n + m))) ∧ Below w.heap.size w w' := by
  go_enter Try.func160, Try.ntmps160
  go_wp2_with (fail)
  go_loopw [5, 6] (fun c i wr => ∃ k : Nat, k ≤ 17 ∧ i = .int .i64 k ∧ c = .int .u64 (carry n m k : Nat) ∧ blk wr w.heap.size (fnC (mixA n m k)) 176 ∧ blk wr (w.heap.size + 1) (bigC m) 176 ∧ blk wr (w.heap.size + 1 + 1) (bigC 0) 176 ∧ Below w.heap.size w wr) (fun _ i _ => 17 - (intOf i).toNat)
  case atStart =>
    refine ⟨0, by omega, rfl, by rw [carry_zero]; rfl, ?_, ?_, ?_, by go_grown⟩
    · rw [show mixA n m 0 = dg n from funext fun i => by simp [mixA]]
      exact ((blk.new _ _ _).alloc _).alloc _
    · exact (blk.new' (by simp)).alloc _
    · rw [zero_eq_big]; exact blk.new' (by simp)
  case round =>
    obtain ⟨k, hk, rfl, rfl, ha, hb, hr, hB⟩ := hrel
    by_cases hlt : k < 17
    · have ca : wr.cell? ⟨w.heap.size, k, none⟩ = some (.int .u64 (dg n k : Nat)) := ha.cellIs (by rw [fnC_get _ hlt]; simp [mixA])
      have cb : wr.cell? ⟨w.heap.size + 1, k, none⟩ = some (.int .u64 (dg m k : Nat)) := hb.cellIs (fnC_get _ hlt)
      have fa : wr.frozen? ⟨w.heap.size, k, none⟩ = false := ha.free _
      have hc1 := carry_le n m k
      have hd1 := dg_lt n k
      have hd2 := dg_lt m k
      go_wp2_with (fail)
      go_quiet (fail)
      go_wp2_with (fail)
      go_roundw
      case rel =>
        refine ⟨k + 1, by omega, by go_num, ?_, ?_, (hb.drewN _).setOther (by simp) _, (hr.drewN _).setOther (by simp; omega) _, ?_⟩
        · rw [← add_carry]; simp
        · refine (ha.drewN _).set' (fnC_set hlt ?_ ?_)
          · simp only [mixA, if_pos (Nat.lt_succ_self k), ← add_digit]; simp
          · intro j _ hj; simp only [mixA]; split <;> split <;> first | rfl | omega
        · exact (below_drewN hB _).setCell (by simp) _
      case measure => simp [intOf]; omega
    · obtain rfl : k = 17 := by omega
      have hs := fnC_size (mixA n m 17)
      have H1 := Lib.hid hs
      clear hs
      go_wp2_with (first | (refine wpList_load_row rfl _ _ rfl _ rfl _ _ _ _ ha Try.underlying176 rfl (by rw [H1.out]; kernel_rfl) ?_) | (refine wpList_store_row rfl _ _ _ rfl _ rfl _ rfl _ _ hr (by rw [H1.out]; kernel_rfl) (by rw [H1.out, bigC_size]) (fnC_one _) ?_))
      refine bodyPost_ret (results_cell_row rfl _ _ _ _ _ _ _ rfl (hr.row _) Try.underlying176 rfl (by rw [H1.out]; kernel_rfl)) rfl ⟨?_, Below.setRow hB (by omega) _⟩
      rw [show fnC (mixA n m 17) = bigC (n + m) from fnC_congr fun i hi => by simp [mixA, hi]]
def mixH (n k : Nat) : Nat → Nat := fun i => if i < k then dg (n / 2) i else dg n i
set_option maxRecDepth 100000 in
set_option maxHeartbeats 400000 in
theorem half_any (n : Nat) (w : World) (hn : n < 65536 ^ 17) :
    Calls Try.prog 190 #[.agg (bigC n)] w fun e w' => e = .returned (.agg (bigC (n / 2))) ∧ Below w.heap.size w w' := by
  have HN := Lib.hid hn
  clear hn
  go_enter Try.func190, Try.ntmps190
  go_wp2_with (fail)
  go_loopw [3] (fun i wr => ∃ k : Nat, k ≤ 17 ∧ i = .int .i64 k ∧ blk wr w.heap.size (fnC (mixH n k)) 176 ∧ blk wr (w.heap.size + 1) (bigC 0) 176 ∧ Below w.heap.size w wr) (fun i _ => 17 - (intOf i).toNat)
  case atStart =>
    refine ⟨0, by omega, rfl, ?_, ?_, by go_grown⟩
    · rw [show mixH n 0 = dg n from funext fun i => by simp [mixH]]
      exact (blk.new _ _ _).alloc _
    · rw [zero_eq_big]; exact blk.new' (by simp)
  case round =>
    obtain ⟨k, hk, rfl, ha, hr, hB⟩ := hrel
    by_cases hlt : k < 17
    · have ca : wr.cell? ⟨w.heap.size, k, none⟩ = some (.int .u64 (dg n k : Nat)) := ha.cellIs (by rw [fnC_get _ hlt]; simp [mixH])
      have fa : wr.frozen? ⟨w.heap.size, k, none⟩ = false := ha.free _
      have hd1 := dg_lt n k
      have hd2 := dg_lt n (k + 1)
      by_cases hlt2 : k < 16
      · have cb : wr.cell? ⟨w.heap.size, k + 1, none⟩ = some (.int .u64 (dg n (k + 1) : Nat)) := ha.cellIs (by rw [fnC_get _ (by omega)]; simp only [mixH, if_neg (show ¬ k + 1 < k by omega)])
        go_wp2_with (fail)
        go_region
        go_wp2_with (fail)
        go_roundw
        case rel =>
          refine ⟨k + 1, by omega, by go_num, ?_, ((hr.setOther (by simp) _).setOther (by simp) _).drew, ((hB.setCell (by simp) _).setCell (by simp) _).drew⟩
          refine (ha.set _ _).set' ?_
          rw [Array.setIfInBounds_setIfInBounds]
          refine fnC_set hlt ?_ ?_
          · simp only [mixH, if_pos (Nat.lt_succ_self k), ← half_digit]; omega
          · intro j _ hj; simp only [mixH]; split <;> split <;> first | rfl | omega
        case measure => simp [intOf] <;> omega
      · go_wp2_with (fail)
        go_roundw
        case rel =>
          refine ⟨k + 1, by omega, by go_num, ?_, hr.setOther (by simp) _, hB.setCell (by simp) _⟩
          refine ha.set' (fnC_set hlt ?_ ?_)
          · obtain rfl : k = 16 := by omega
            simp only [mixH, if_pos (Nat.lt_succ_self 16), ← half_digit]
            rw [dg_high HN.out (Nat.le_refl 17)]; omega
          · intro j _ hj; simp only [mixH]; split <;> split <;> first | rfl | omega
        case measure => simp [intOf] <;> omega
    · obtain rfl : k = 17 := by omega
      have hs := fnC_size (mixH n 17)
      have H1 := Lib.hid hs
      clear hs
      go_wp2_with (first | (refine wpList_load_row rfl _ _ rfl _ rfl _ _ _ _ ha Try.underlying176 rfl (by rw [H1.out]; kernel_rfl) ?_) | (refine wpList_store_row rfl _ _ _ rfl _ rfl _ rfl _ _ hr (by rw [H1.out]; kernel_rfl) (by rw [H1.out, bigC_size]) (fnC_one _) ?_))
      refine bodyPost_ret (results_cell_row rfl _ _ _ _ _ _ _ rfl (hr.row _) Try.underlying176 rfl (by rw [H1.out]; kernel_rfl)) rfl ⟨?_, Below.setRow hB (by omega) _⟩
      rw [show fnC (mixH n 17) = bigC (n / 2) from fnC_congr fun i hi => by simp [mixH, hi]]
set_option maxRecDepth 100000 in
set_option maxHeartbeats 400000 in
theorem less_any (n m : Nat) (w : World) (hn : n < 65536 ^ 17) (hm : m < 65536 ^ 17) :
    Calls Try.prog 167 #[.agg (bigC n), .agg (bigC m)] w fun e w' => e = .returned (.bool (decide (n < m))) ∧ Below w.heap.size w w' := by
  have HN := Lib.hid hn
  have HM := Lib.hid hm
  clear hn hm
  go_enter Try.func167, Try.ntmps167
  go_wp2_with (fail)
  go_loopw [5] (fun i wr => ∃ k : Nat, k ≤ 17 ∧ i = .int .i64 ((k : Int) - 1) ∧ Hid (∀ j, k ≤ j → j < 17 → dg n j = dg m j) ∧ blk wr w.heap.size (bigC n) 176 ∧ blk wr (w.heap.size + 1) (bigC m) 176 ∧ Below w.heap.size w wr) (fun i _ => (intOf i + 1).toNat)
  case atStart =>
    exact ⟨17, by omega, rfl, fun j h1 h2 => by omega, (blk.new _ _ _).alloc _, blk.new' (by simp), by go_grown⟩
  case round =>
    obtain ⟨k, hk, rfl, he, ha, hb, hB⟩ := hrel
    by_cases hlt : 0 < k
    · obtain ⟨k, rfl⟩ : ∃ j, k = j + 1 := ⟨k - 1, by omega⟩
      have e1 : ((k + 1 : Nat) : Int) - 1 = (k : Int) := by omega
      rw [e1]
      clear e1
      have ca : wr.cell? ⟨w.heap.size, k, none⟩ = some (.int .u64 (dg n k : Nat)) := ha.cellIs (fnC_get _ (by omega))
      have cb : wr.cell? ⟨w.heap.size + 1, k, none⟩ = some (.int .u64 (dg m k : Nat)) := hb.cellIs (fnC_get _ (by omega))
      by_cases hd : dg n k = dg m k
      · have hd1 : ((dg n k : Int) != (dg m k : Int)) = false := by rw [hd]; simp
        have HD := Lib.hid hd
        clear hd
        go_wp2_with (fail)
        go_quiet (fail)
        go_wp2_with (fail)
        go_roundw
        case rel =>
          refine ⟨k, by omega, by go_num, ?_, ha.drewN _, hb.drewN _, below_drewN hB _⟩
          intro j h1 h2
          by_cases e : j = k
          · subst e; exact HD.out
          · exact he.out j (by omega) h2
        case measure => simp [intOf] <;> omega
      · have hd1 : ((dg n k : Int) != (dg m k : Int)) = true := by simp; omega
        have HD := Lib.hid hd
        clear hd
        go_wp2_with (fail)
        go_quiet (fail)
        go_wp2_with (fail)
        go_quiet (fail)
        go_wp2_with (fail)
        go_ret
        refine ⟨congrArg (fun x => Ending.returned (.bool x)) ?_, by first | exact below_drewN (below_drewN hB _) _ | exact below_drewN hB _⟩
        have hl := less_digit (i := k) HN.out HM.out (fun j h1 h2 => he.out j (by omega) h2) HD.out
        (rw [decide_eq_decide, hl]) <;> omega
    · obtain rfl : k = 0 := by omega
      go_wp2_with (fail)
      go_ret
      refine ⟨congrArg (fun x => Ending.returned (.bool x)) ?_, hB⟩
      have : n = m := eq_of_all HN.out HM.out (fun j hj => he.out j (by omega) hj)
      subst this; simp
end Go.Proofs.Ytkmelddejdikgaa
namespace Go.Proofs.Ytkmelddejdikgaa
open Go.RowKit PM
/-- In the middle of a borrow: digit i has 65536 more, the digits from i + 1 to k - 1 are 65535. -/
def mixB (N i k : Nat) : Nat → Nat := fun j => if j = i then dg N i + 65536 else if i < j ∧ j < k then 65535 else dg N j
set_option maxRecDepth 100000 in
set_option maxHeartbeats 1000000 in
theorem sub_any (n m : Nat) (w : World) (hn : n < 65536 ^ 17) (hm : m ≤ n) :
    Calls Try.prog 169 #[.agg (bigC n), .agg (bigC m)] w fun e w' => e = .returned (.agg (bigC (n - m))) ∧ Below w.heap.size w w' := by
  have HN := Lib.hid hn
  have HM := Lib.hid hm
  clear hn hm
  go_enter Try.func169, Try.ntmps169
  go_wp2_with (fail)
  go_loopw [5] (fun i wr => ∃ k : Nat, k ≤ 17 ∧ i = .int .i64 k ∧ blk wr w.heap.size (bigC (subN n m k)) 176 ∧ blk wr (w.heap.size + 1) (bigC m) 176 ∧ blk wr (w.heap.size + 1 + 1) (bigC 0) 176 ∧ Below w.heap.size w wr) (fun i _ => 17 - (intOf i).toNat)
  case atStart =>
    refine ⟨0, by omega, rfl, ?_, (blk.new' (by simp)).alloc _, ?_, by go_grown⟩
    · rw [subN_zero]; exact ((blk.new _ _ _).alloc _).alloc _
    · rw [zero_eq_big]; exact blk.new' (by simp)
  case round =>
    obtain ⟨i, hi, rfl, ha, hb, hr, hB⟩ := hrel
    by_cases hlt : i < 17
    · have ca : wr.cell? ⟨w.heap.size, i, none⟩ = some (.int .u64 (dg (subN n m i) i : Nat)) := ha.cellIs (fnC_get _ (by omega))
      have cb : wr.cell? ⟨w.heap.size + 1, i, none⟩ = some (.int .u64 (dg m i : Nat)) := hb.cellIs (fnC_get _ (by omega))
      have fa : wr.frozen? ⟨w.heap.size, i, none⟩ = false := ha.free _
      have hd1 := dg_lt (subN n m i) i
      have hd2 := dg_lt m i
      have HR := Lib.hid (subN_round (i := i) HM.out)
      by_cases hbr : dg (subN n m i) i < dg m i
      · go_wp2_with (fail)
        go_quiet (fail)
        go_wp2_with (fail)
        have ha' := (ha.drewN nq).set' (c' := fnC (mixB (subN n m i) i (i + 1))) (i := i) (v := .int .u64 ((dg (subN n m i) i : Int) + 65536)) (fnC_set hlt (by simp [mixB]) (fun j _ hj => by simp only [mixB, if_neg hj]; split <;> first | rfl | omega))
        have hb' := (hb.drewN nq).setOther (a := ⟨w.heap.size, i, none⟩) (by simp <;> omega) (.int .u64 ((dg (subN n m i) i : Int) + 65536))
        have hr' := (hr.drewN nq).setOther (a := ⟨w.heap.size, i, none⟩) (by simp <;> omega) (.int .u64 ((dg (subN n m i) i : Int) + 65536))
        have hB' := (below_drewN hB nq).setCell (p := ⟨w.heap.size, i, none⟩) (Nat.le_refl _) (.int .u64 ((dg (subN n m i) i : Int) + 65536))
        clear ha hb hr hB ca cb fa
        generalize (wr.drewN nq).setCell ⟨w.heap.size, i, none⟩ (.int .u64 ((dg (subN n m i) i : Int) + 65536)) = wo at *
        go_loopw [6] (fun kv wi => ∃ k : Nat, i < k ∧ kv = .int .i64 k ∧ Hid (∀ s, i < s → s < k → dg (subN n m i) s = 0) ∧ blk wi w.heap.size (fnC (mixB (subN n m i) i k)) 176 ∧ blk wi (w.heap.size + 1) (bigC m) 176 ∧ blk wi (w.heap.size + 1 + 1) (bigC 0) 176 ∧ Below w.heap.size w wi) (fun k _ => 17 - (intOf k).toNat)
        case atStart => exact ⟨i + 1, by omega, by go_num, fun s h1 h2 => by omega, ha', hb', hr', hB'⟩
        case round =>
          clear ha' hb' hr' hB'
          obtain ⟨k, hik, rfl, hz, ha, hb, hr, hB⟩ := hrel
          have hk17 : k < 17 := sub_exists HR.out hbr (Nat.lt_of_le_of_lt (Nat.sub_le _ _) HN.out) k hz.out
          have ck : wr.cell? ⟨w.heap.size, k, none⟩ = some (.int .u64 (dg (subN n m i) k : Nat)) := ha.cellIs (by rw [fnC_get _ (by omega)]; simp only [mixB, if_neg (show ¬ k = i by omega), if_neg (show ¬ (i < k ∧ k < k) by omega)])
          have fk : wr.frozen? ⟨w.heap.size, k, none⟩ = false := ha.free _
          have hd3 := dg_lt (subN n m i) k
          by_cases h0 : dg (subN n m i) k = 0
          · have h0' : ((dg (subN n m i) k : Int) == 0) = true := by rw [h0]; rfl
            have H0 := Lib.hid h0
            clear h0
            go_wp2_with (fail)
            go_roundw
            case rel =>
              refine ⟨k + 1, by omega, by go_num, ?_, ?_, hb.setOther (by simp <;> omega) _, hr.setOther (by simp <;> omega) _, hB.setCell (by simp) _⟩
              · intro s h1 h2
                by_cases e : s = k
                · subst e; exact H0.out
                · exact hz.out s h1 (by omega)
              · refine ha.set' (fnC_set hk17 ?_ ?_)
                · simp only [mixB, if_neg (show ¬ k = i by omega), if_pos (show i < k ∧ k < k + 1 by omega)]; rfl
                · intro j _ hj; simp only [mixB]; split
                  · rfl
                  · split <;> split <;> first | rfl | omega
            case measure => simp [intOf] <;> omega
          · have h0' : ((dg (subN n m i) k : Int) == 0) = false := by simp <;> omega
            have H0 := Lib.hid h0
            have hpos : 0 < dg (subN n m i) k := by omega
            clear h0
            have ci : wr.cell? ⟨w.heap.size, i, none⟩ = some (.int .u64 ((dg (subN n m i) i + 65536 : Nat) : Nat)) := ha.cellIs (by rw [fnC_get _ (by omega)]; simp only [mixB, if_true])
            have fi : wr.frozen? ⟨w.heap.size, i, none⟩ = false := ha.free _
            have ca2 : (wr.setCell ⟨w.heap.size, k, none⟩ (.int .u64 ((dg (subN n m i) k : Int) - 1))).cell? ⟨w.heap.size, i, none⟩ = some (.int .u64 ((dg (subN n m i) i + 65536 : Nat) : Nat)) := by
              rw [World.cell?_setCell_other _ _ _ _ (by simp <;> omega)]; exact ci
            have cb : wr.cell? ⟨w.heap.size + 1, i, none⟩ = some (.int .u64 (dg m i : Nat)) := hb.cellIs (fnC_get _ (by omega))
            go_wp2_with (fail)
            go_region
            go_wp2_with (fail)
            go_roundw
            case rel =>
              refine ⟨i + 1, by omega, by go_num, ?_, ((hb.setOther (by simp <;> omega) _).setOther (by simp <;> omega) _).drew, ((hr.setOther (by simp <;> omega) _).setOther (by simp <;> omega) _).drew, ((hB.setCell (by simp) _).setCell (by simp) _).drew⟩
              have hz' := hz.out
              have h0' := H0.out
              refine (((ha.set' (c' := fnC fun j => if j = k then dg (subN n m i) k - 1 else mixB (subN n m i) i k j) (fnC_set hk17 ?_ ?_)).set' (fnC_set hlt ?_ ?_))).drew
              · rw [if_pos rfl]; omega
              · intro j _ hj; rw [if_neg hj]
              · rw [sub_borrow rfl HR.out hd2 hbr hik hz' h0', if_neg (by omega), if_pos rfl]; omega
              · intro j _ hj
                rw [sub_borrow rfl HR.out hd2 hbr hik hz' h0']
                simp only [mixB, if_neg hj]
                by_cases h1 : j < i
                · rw [if_pos h1, if_neg (by omega), if_neg (by omega)]
                · rw [if_neg h1]
                  by_cases h2 : j < k
                  · rw [if_pos h2, if_neg (by omega), if_pos (by omega)]
                  · rw [if_neg h2]
                    by_cases h3 : j = k
                    · rw [if_pos h3, if_pos h3]
                    · rw [if_neg h3, if_neg h3, if_neg (by omega)]
            case measure => simp [intOf] <;> omega
      · go_wp2_with (fail)
        go_quiet (fail)
        go_wp2_with (fail)
        go_region
        go_wp2_with (fail)
        go_roundw
        case rel =>
          refine ⟨i + 1, by omega, by go_num, ?_, (hb.drewN _).setOther (by simp <;> omega) _, (hr.drewN _).setOther (by simp <;> omega) _, (below_drewN hB _).setCell (by simp) _⟩
          refine (ha.drewN _).set' (fnC_set hlt ?_ ?_)
          · rw [sub_plain rfl HR.out (by omega), if_pos rfl]; omega
          · intro j _ hj
            rw [sub_plain rfl HR.out (by omega), if_neg hj]
        case measure => simp [intOf] <;> omega
    · obtain rfl : i = 17 := by omega
      have hs := bigC_size (subN n m 17)
      have H1 := Lib.hid hs
      clear hs
      go_wp2_with (first | (refine wpList_load_row rfl _ _ rfl _ rfl _ _ _ _ ha Try.underlying176 rfl (by rw [H1.out]; kernel_rfl) ?_) | (refine wpList_store_row rfl _ _ _ rfl _ rfl _ rfl _ _ hr (by rw [H1.out]; kernel_rfl) (by rw [H1.out, bigC_size]) (fnC_one _) ?_))
      refine bodyPost_ret (results_cell_row rfl _ _ _ _ _ _ _ rfl (hr.row _) Try.underlying176 rfl (by rw [H1.out]; kernel_rfl)) rfl ⟨?_, Below.setRow hB (by omega) _⟩
      rw [show subN n m 17 = n - m by unfold subN; rw [low_all (Nat.lt_of_le_of_lt HM.out HN.out)]]
end Go.Proofs.Ytkmelddejdikgaa
namespace Go.Proofs.Ytkmelddejdikgaa
open Go.RowKit PM
/-- The digits of a times b in the making: round i, inner round k. -/
def mixT (n m i k : Nat) : Nat → Nat := fun j => if j < i + k then dg (low n (i + 1) * m) j else dg (low n i * m) j
set_option maxRecDepth 100000 in
set_option maxHeartbeats 1000000 in
theorem times_any (n m : Nat) (w : World) (hn : n < 65536 ^ 8) (hm : m < 65536 ^ 8) :
    Calls Try.prog 117 #[.agg (bigC n), .agg (bigC m)] w fun e w' => e = .returned (.agg (bigC (n * m))) ∧ Below w.heap.size w w' := by
  have HN := Lib.hid hn
  have HM := Lib.hid hm
  clear hn hm
  go_enter Try.func117, Try.ntmps117
  go_wp2_with (fail)
  go_loopw [6] (fun i wr => ∃ k : Nat, k ≤ 8 ∧ i = .int .i64 k ∧ blk wr w.heap.size (bigC n) 176 ∧ blk wr (w.heap.size + 1) (bigC m) 176 ∧ blk wr (w.heap.size + 1 + 1) (bigC 0) 176 ∧ blk wr (w.heap.size + 1 + 1 + 1) (bigC (low n k * m)) 176 ∧ Below w.heap.size w wr) (fun i _ => 8 - (intOf i).toNat)
  case atStart =>
    refine ⟨0, by omega, rfl, (((blk.new _ _ _).alloc _).alloc _).alloc _, ((blk.new' (by simp)).alloc _).alloc _, ?_, ?_, by go_grown⟩
    · rw [zero_eq_big]; exact (blk.new' (by simp)).alloc _
    · rw [zero_eq_big, low_zero, Nat.zero_mul]; exact blk.new' (by simp)
  case round =>
    obtain ⟨i, hi, rfl, ha, hb, hr, hx, hB⟩ := hrel
    by_cases hlt : i < 8
    · have ca : wr.cell? ⟨w.heap.size, i, none⟩ = some (.int .u64 (dg n i : Nat)) := ha.cellIs (fnC_get _ (by omega))
      have hd1 := dg_lt n i
      go_wp2_with (fail)
      clear ca
      obtain ⟨wo, rfl⟩ : ∃ wo : World, wo = wr := ⟨_, rfl⟩
      go_loopw [7, 8] (fun c k wi => ∃ j : Nat, j ≤ 9 ∧ k = .int .i64 j ∧ c = .int .u64 (carryM (low n i * m / 65536 ^ i) (dg n i) m j : Nat) ∧ blk wi w.heap.size (bigC n) 176 ∧ blk wi (w.heap.size + 1) (bigC m) 176 ∧ blk wi (w.heap.size + 1 + 1) (bigC 0) 176 ∧ blk wi (w.heap.size + 1 + 1 + 1) (fnC (mixT n m i j)) 176 ∧ Below w.heap.size w wi) (fun _ k _ => 9 - (intOf k).toNat)
      case atStart =>
        refine ⟨0, by omega, rfl, by rw [carryM_zero]; rfl, ha, hb, hr, ?_, hB⟩
        rw [show mixT n m i 0 = dg (low n i * m) from funext fun j => by simp only [mixT]; split <;> first | rfl | exact mul_lower (by omega)]
        exact hx
      case round =>
        obtain ⟨j, hj, rfl, rfl, ha, hb, hr, hx, hB⟩ := hrel
        by_cases hlt2 : j < 9
        · have ca : wr.cell? ⟨w.heap.size, i, none⟩ = some (.int .u64 (dg n i : Nat)) := ha.cellIs (fnC_get _ (by omega))
          have cb : wr.cell? ⟨w.heap.size + 1, j, none⟩ = some (.int .u64 (dg m j : Nat)) := hb.cellIs (fnC_get _ (by omega))
          have cx : wr.cell? ⟨w.heap.size + 1 + 1 + 1, i + j, none⟩ = some (.int .u64 (dg (low n i * m) (i + j) : Nat)) := hx.cellIs (by rw [fnC_get _ (by omega)]; simp only [mixT, if_neg (Nat.lt_irrefl _)])
          have fx : wr.frozen? ⟨w.heap.size + 1 + 1 + 1, i + j, none⟩ = false := hx.free _
          have hd2 := dg_lt m j
          have hd3 := dg_lt (low n i * m) (i + j)
          have hc := carryM_le (low n i * m / 65536 ^ i) (dg n i) m j
          have hm1 : dg n i * dg m j ≤ 65535 * 65535 := Nat.mul_le_mul (by omega) (by omega)
          go_wp2_with (fail)
          go_quiet (fail)
          go_wp2_with (fail)
          have ed : dg (low n i * m) (i + j) = dg (low n i * m / 65536 ^ i) j := dg_add _ _ _
          go_roundw
          case rel =>
            refine ⟨j + 1, by omega, by go_num, ?_, (ha.drewN _).setOther (by simp <;> omega) _, (hb.drewN _).setOther (by simp <;> omega) _, (hr.drewN _).setOther (by simp) _, ?_, (below_drewN hB _).setCell (by simp <;> omega) _⟩
            · rw [← mul_carry, ed]; simp
            · refine (hx.drewN _).set' (fnC_set (by omega) ?_ ?_)
              · simp only [mixT, if_pos (show i + j < i + (j + 1) by omega), mul_inner, ← mul_digit, ed]; simp
              · intro s _ hs; simp only [mixT]; split <;> split <;> first | rfl | omega
          case measure => simp [intOf] <;> omega
        · obtain rfl : j = 9 := by omega
          go_wp2_with (fail)
          go_roundw
          case rel =>
            refine ⟨i + 1, by omega, by go_num, ha, hb, hr, ?_, hB⟩
            rw [show bigC (low n (i + 1) * m) = fnC (mixT n m i 9) from fnC_congr fun s hs => by
              simp only [mixT]; split
              · rfl
              · exact mul_upper HM.out (by omega)]
            exact hx
          case measure => simp [intOf] <;> omega
    · obtain rfl : i = 8 := by omega
      have hs := bigC_size (low n 8 * m)
      have H1 := Lib.hid hs
      clear hs
      go_wp2_with (first | (refine wpList_load_row rfl _ _ rfl _ rfl _ _ _ _ hx Try.underlying176 rfl (by rw [H1.out]; kernel_rfl) ?_) | (refine wpList_store_row rfl _ _ _ rfl _ rfl _ rfl _ _ hr (by rw [H1.out]; kernel_rfl) (by rw [H1.out, bigC_size]) (fnC_one _) ?_))
      refine bodyPost_ret (results_cell_row rfl _ _ _ _ _ _ _ rfl (hr.row _) Try.underlying176 rfl (by rw [H1.out]; kernel_rfl)) rfl ⟨?_, Below.setRow hB (by omega) _⟩
      rw [low_all HN.out]
end Go.Proofs.Ytkmelddejdikgaa
namespace Go.Proofs.Ytkmelddejdikgaa
open Go.RowKit PM
/-- The first k digits of N. -/
def mixZ (N k : Nat) : Nat → Nat := fun j => if j < k then dg N j else 0
set_option maxRecDepth 100000 in
set_option maxHeartbeats 1000000 in
theorem abs_any (a : Int) (w : World) (h0 : -9223372036854775808 ≤ a) (h1 : a ≤ 9223372036854775807) :
    Calls Try.prog 118 #[.int .i64 a] w fun e w' => e = .returned (.agg (bigC a.natAbs)) ∧ Below w.heap.size w w' := by
  obtain ⟨N, hN⟩ : ∃ N, N = a.natAbs := ⟨_, rfl⟩
  have hNb : N < 65536 ^ 4 := by omega
  rw [← hN]
  have e1 : a < 0 → IntKind.u64.wrap (-IntKind.u64.wrap a) = (N : Int) := by intro h; simp only [IntKind.wrap_u64]; omega
  have e2 : ¬ a < 0 → a = (N : Int) := by omega
  have HE1 := Lib.hid e1
  have HE2 := Lib.hid e2
  have HNN := Lib.hid hN
  have HB := Lib.hid hNb
  clear hN e1 e2 hNb
  by_cases ha : a < 0
  all_goals
    go_enter Try.func118, Try.ntmps118
    go_wp2_with (fail)
    first | rw [HE1.out ha] | skip
    go_loopw [3, 5] (fun n i wr => ∃ k : Nat, k ≤ 4 ∧ i = .int .i64 k ∧ n = .int .u64 (N / 65536 ^ k : Nat) ∧ blk wr w.heap.size (bigC 0) 176 ∧ blk wr (w.heap.size + 1) (fnC (mixZ N k)) 176 ∧ Below w.heap.size w wr) (fun _ i _ => 4 - (intOf i).toNat)
    case atStart =>
      refine ⟨0, by omega, rfl, ?_, ?_, ?_, by go_grown⟩
      · (rw [Nat.pow_zero, Nat.div_one]) <;> rw [← HE2.out ha]
      · rw [zero_eq_big]; exact (blk.new _ _ _).alloc _
      · rw [show fnC (mixZ N 0) = fnC (fun _ => 0) from fnC_congr fun i _ => by simp [mixZ], zero_big]; exact blk.new' (by simp)
    case round =>
      obtain ⟨k, hk, rfl, rfl, hr, hx, hB⟩ := hrel
      by_cases hlt : k < 4
      · have fx : wr.frozen? ⟨w.heap.size + 1, k, none⟩ = false := hx.free _
        have cx : wr.cell? ⟨w.heap.size + 1, k, none⟩ = some (.int .u64 (0 : Nat)) := hx.cellIs (by rw [fnC_get _ (by omega)]; simp [mixZ])
        have HD := Lib.hid (show N / 65536 ^ (k + 1) = N / 65536 ^ k / 65536 by rw [Nat.pow_succ, ← Nat.div_div_eq_div_mul])
        have HD2 := Lib.hid (show dg N k = N / 65536 ^ k % 65536 from rfl)
        have hlt2 : N / 65536 ^ k < 18446744073709551616 := Nat.lt_of_le_of_lt (Nat.div_le_self _ _) (Nat.lt_of_lt_of_le HB.out (by omega))
        obtain ⟨q, hq⟩ : ∃ q, q = N / 65536 ^ k := ⟨_, rfl⟩
        rw [← hq] at HD HD2 hlt2 ⊢
        clear hq
        go_wp2_with (fail)
        go_roundw
        case rel =>
          refine ⟨k + 1, by omega, by go_num, by rw [HD.out]; simp, hr.setOther (by simp <;> omega) _, ?_, hB.setCell (by simp <;> omega) _⟩
          refine hx.set' (fnC_set (by omega) ?_ ?_)
          · simp only [mixZ, if_pos (Nat.lt_succ_self k), HD2.out]; simp
          · intro j _ hj; simp only [mixZ]; split <;> split <;> first | rfl | omega
        case measure => simp [intOf] <;> omega
      · obtain rfl : k = 4 := by omega
        have hs := fnC_size (mixZ N 4)
        have H1 := Lib.hid hs
        clear hs
        go_wp2_with (first | (refine wpList_load_row rfl _ _ rfl _ rfl _ _ _ _ hx Try.underlying176 rfl (by rw [H1.out]; kernel_rfl) ?_) | (refine wpList_store_row rfl _ _ _ rfl _ rfl _ rfl _ _ hr (by rw [H1.out]; kernel_rfl) (by rw [H1.out, bigC_size]) (fnC_one _) ?_))
        refine bodyPost_ret (results_cell_row rfl _ _ _ _ _ _ _ rfl (hr.row _) Try.underlying176 rfl (by rw [H1.out]; kernel_rfl)) rfl ⟨?_, Below.setRow hB (by omega) _⟩
        rw [show fnC (mixZ N 4) = bigC N from fnC_congr fun i _ => by
          simp only [mixZ]; split
          · rfl
          · rw [dg_high HB.out (by omega)]]
set_option maxRecDepth 100000 in
set_option maxHeartbeats 1000000 in
theorem rsigned_any (n : Nat) (neg : Bool) (w : World) (hn : n < 65536 ^ 17) :
    Calls Try.prog 161 #[.bool neg, .agg (bigC n)] w fun e w' => e = .returned (.tuple #[.int .i64 (fitV (sgn neg n)), .int .i64 (fitE (sgn neg n))]) ∧ Below w.heap.size w w' := by
  have c0 : (bigC n)[0]? = some (.int .u64 (dg n 0 : Nat)) := fnC_get _ (by omega)
  have c1 : (bigC n)[1]? = some (.int .u64 (dg n 1 : Nat)) := fnC_get _ (by omega)
  have c2 : (bigC n)[2]? = some (.int .u64 (dg n 2 : Nat)) := fnC_get _ (by omega)
  have c3 : (bigC n)[3]? = some (.int .u64 (dg n 3 : Nat)) := fnC_get _ (by omega)
  have d0 := dg_lt n 0
  have d1 := dg_lt n 1
  have d2 := dg_lt n 2
  have d3 := dg_lt n 3
  have HN := Lib.hid hn
  clear hn
  go_enter Try.func161, Try.ntmps161
  go_wp2_with (fail)
  have HL : Hid ((dg n 0 : Int) + (dg n 1 : Int) * 65536 + (dg n 2 : Int) * 65536 * 65536 + (dg n 3 : Int) * 65536 * 65536 * 65536 = (low n 4 : Nat)) := by
    have : low n 4 = dg n 0 + dg n 1 * 65536 + dg n 2 * 65536 * 65536 + dg n 3 * 65536 * 65536 * 65536 := by
      rw [low_succ, low_succ, low_succ, low_succ, low_zero]; omega
    show _ = _
    rw [this]; simp
  have hL := low_lt n 4
  rw [HL.out]
  clear c0 c1 c2 c3 d0 d1 d2 d3 HL
  obtain ⟨L, hLe⟩ : ∃ L, L = low n 4 := ⟨_, rfl⟩
  rw [← hLe] at hL ⊢
  have HLE := Lib.hid hLe
  clear hLe
  go_loopw [7] (fun i wr => ∃ k : Nat, 4 ≤ k ∧ k ≤ 17 ∧ i = .int .i64 k ∧ Hid (∀ j, 4 ≤ j → j < k → dg n j = 0) ∧ blk wr w.heap.size (bigC n) 176 ∧ Below w.heap.size w wr) (fun i _ => 17 - (intOf i).toNat)
  case atStart => exact ⟨4, by omega, by omega, rfl, fun j h1 h2 => by omega, blk.new _ _ _, by go_grown⟩
  case round =>
    obtain ⟨k, hk4, hk, rfl, hz, ha, hB⟩ := hrel
    by_cases hlt : k < 17
    · have ca : wr.cell? ⟨w.heap.size, k, none⟩ = some (.int .u64 (dg n k : Nat)) := ha.cellIs (fnC_get _ hlt)
      by_cases hd : dg n k = 0
      · have hd' : ((dg n k : Int) != 0) = false := by rw [hd]; rfl
        have HD := Lib.hid hd
        clear hd
        go_wp2_with (fail)
        go_roundw
        case rel =>
          refine ⟨k + 1, by omega, by omega, by go_num, ?_, ha, hB⟩
          intro j h1 h2
          by_cases e : j = k
          · subst e; exact HD.out
          · exact hz.out j h1 (by omega)
        case measure => simp [intOf] <;> omega
      · have hd' : ((dg n k : Int) != 0) = true := by simp <;> omega
        have hbig : 18446744073709551616 ≤ n := by
          apply Nat.le_of_not_lt; intro hlt'
          exact hd (dg_high (k := 4) (by omega) hk4)
        have HD := Lib.hid hbig
        clear hd hbig
        go_wp2_with (fail)
        go_ret2
        have hf : inI (sgn neg n) = false := by
          have := HD.out
          cases neg <;> simp [inI, sgn] <;> omega
        exact ⟨ret2I (fitV_no hf).symm (fitE_no hf).symm, hB⟩
    · obtain rfl : k = 17 := by omega
      have hnL : n = L := by
        have hnb : n < 65536 ^ 4 := by
          have := split_low n 4
          have h0 : n / 65536 ^ 4 = 0 := by
            apply eq_of_dg 17 (Nat.lt_of_le_of_lt (Nat.div_le_self _ _) HN.out) (by simp)
            intro s hs
            rw [← dg_add, show dg 0 s = 0 by simp [dg]]
            rcases Nat.lt_or_ge (4 + s) 17 with h | h
            · exact hz.out _ (by omega) h
            · exact dg_high HN.out h
          rw [h0, Nat.mul_zero, Nat.zero_add] at this
          rw [this]; exact low_lt n 4
        rw [HLE.out, low_all hnb]
      have HNL := Lib.hid hnL
      clear hnL hL
      by_cases h1 : L ≤ 9223372036854775807
      · have hb1 : ((L : Int) == 9223372036854775808) = false := by simp <;> omega
        cases neg
        all_goals
          go_wp2_with (fail)
          go_ret2
          have hf : ∀ neg, inI (sgn neg n) = true := by
            intro neg; rw [HNL.out]; cases neg <;> simp [inI, sgn] <;> omega
          refine ⟨ret2I ((Eq.trans ?_ (fitV_yes (hf _)).symm)) (fitE_yes (hf _)).symm, hB⟩
          simp only [sgn, HNL.out, if_true, if_false, Bool.false_eq_true, wrap64, IntKind.wrap_u64] <;> omega
      · by_cases h2 : L = 9223372036854775808
        · subst h2
          cases neg
          · go_wp2_with (fail)
            go_ret2
            have hf : inI (sgn false n) = false := by
              simp only [inI, sgn, HNL.out]; decide
            exact ⟨ret2I (fitV_no hf).symm (fitE_no hf).symm, hB⟩
          · go_wp2_with (fail)
            go_ret2
            have hf : inI (sgn true n) = true := by
              simp only [inI, sgn, HNL.out]; decide
            refine ⟨ret2I ((Eq.trans ?_ (fitV_yes hf).symm)) (fitE_yes hf).symm, hB⟩
            rw [show sgn true n = -9223372036854775808 from by rw [HNL.out]; rfl]
            simp only [wrap64, IntKind.wrap_u64]; rfl
        · have h3 : 9223372036854775808 < L := by omega
          clear h2
          go_wp2_with (fail)
          all_goals
            go_ret2
            have hf : ∀ neg, inI (sgn neg n) = false := by
              intro neg; rw [HNL.out]; cases neg <;> simp [inI, sgn] <;> omega
            exact ⟨ret2I (fitV_no (hf _)).symm (fitE_no (hf _)).symm, hB⟩
end Go.Proofs.Ytkmelddejdikgaa
