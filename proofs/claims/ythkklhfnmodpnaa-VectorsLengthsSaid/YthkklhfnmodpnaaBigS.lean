/-
  The difference of numbers of 17 digits (package perigeeref01), for a subtrahend that is not greater.
-/
import Derived.Test.YthkklhfnmodpnaaBase
set_option linter.unusedSimpArgs false
set_option linter.unusedVariables false
namespace Go.Proofs.Ythkklhfnmodpnaa
open Go.RowKit PM

/-- In the middle of a borrow: digit i has 65536 more, the digits from i + 1 to k - 1 are 65535. -/
def mixB (N i k : Nat) : Nat → Nat := fun j => if j = i then dg N i + 65536 else if i < j ∧ j < k then 65535 else dg N j
set_option maxRecDepth 100000 in
set_option maxHeartbeats 1000000 in
theorem sub_any (n m : Nat) (w : World) (hn : n < 65536 ^ 17) (hm : m ≤ n) :
    Calls Try.prog 120 #[.agg (bigC n), .agg (bigC m)] w fun e w' => e = .returned (.agg (bigC (n - m))) ∧ Below w.heap.size w w' := by
  have HN := Lib.hid hn
  have HM := Lib.hid hm
  clear hn hm
  go_enter Try.func120, Try.ntmps120
  go_wp2_with (fail)
  go_loopw [5] (fun i wr => ∃ k : Nat, k ≤ 17 ∧ i = .int .i64 k ∧ blk wr w.heap.size (bigC (subN n m k)) 76 ∧ blk wr (w.heap.size + 1) (bigC m) 76 ∧ blk wr (w.heap.size + 1 + 1) (bigC 0) 76 ∧ Below w.heap.size w wr) (fun i _ => 17 - (intOf i).toNat)
  case atStart =>
    refine ⟨0, by omega, rfl, ?_, (blk.new' (by simp)).alloc _, ?_, by go_grown⟩
    · rw [subN_zero]; exact ((blk.new _ _ _).alloc _).alloc _
    · rw [zero_eq_big]; exact blk.new' (by simp)
  case round =>
    obtain ⟨i, hi, rfl, ha, hb, hr, hB⟩ := hrel
    by_cases hlt : i < 17
    · have ca : wr.cell? ⟨w.heap.size, i, none⟩ = some (.int .u64 (dg (subN n m i) i : Nat)) := ha.cellIs (fnC_get _ (by omega))
      have cb : wr.cell? ⟨w.heap.size + 1, i, none⟩ = some (.int .u64 (dg m i : Nat)) := hb.cellIs (fnC_get _ (by omega))
      have fa : wr.frozen? ⟨w.heap.size, i, none⟩ = false := ha.free _
      have hd1 := dg_lt (subN n m i) i
      have hd2 := dg_lt m i
      have HR := Lib.hid (subN_round (i := i) HM.out)
      by_cases hbr : dg (subN n m i) i < dg m i
      · go_wp2_with (fail)
        go_quiet (fail)
        go_wp2_with (fail)
        have ha' := (ha.drewN nq).set' (c' := fnC (mixB (subN n m i) i (i + 1))) (i := i) (v := .int .u64 ((dg (subN n m i) i : Int) + 65536)) (fnC_set hlt (by simp [mixB]) (fun j _ hj => by simp only [mixB, if_neg hj]; split <;> first | rfl | omega))
        have hb' := (hb.drewN nq).setOther (a := ⟨w.heap.size, i, none⟩) (by simp <;> omega) (.int .u64 ((dg (subN n m i) i : Int) + 65536))
        have hr' := (hr.drewN nq).setOther (a := ⟨w.heap.size, i, none⟩) (by simp <;> omega) (.int .u64 ((dg (subN n m i) i : Int) + 65536))
        have hB' := (below_drewN hB nq).setCell (p := ⟨w.heap.size, i, none⟩) (Nat.le_refl _) (.int .u64 ((dg (subN n m i) i : Int) + 65536))
        clear ha hb hr hB ca cb fa
        generalize (wr.drewN nq).setCell ⟨w.heap.size, i, none⟩ (.int .u64 ((dg (subN n m i) i : Int) + 65536)) = wo at *
        go_loopw [6] (fun kv wi => ∃ k : Nat, i < k ∧ kv = .int .i64 k ∧ Hid (∀ s, i < s → s < k → dg (subN n m i) s = 0) ∧ blk wi w.heap.size (fnC (mixB (subN n m i) i k)) 76 ∧ blk wi (w.heap.size + 1) (bigC m) 76 ∧ blk wi (w.heap.size + 1 + 1) (bigC 0) 76 ∧ Below w.heap.size w wi) (fun k _ => 17 - (intOf k).toNat)
        case atStart => exact ⟨i + 1, by omega, by go_num, fun s h1 h2 => by omega, ha', hb', hr', hB'⟩
        case round =>
          clear ha' hb' hr' hB'
          obtain ⟨k, hik, rfl, hz, ha, hb, hr, hB⟩ := hrel
          have hk17 : k < 17 := sub_exists HR.out hbr (Nat.lt_of_le_of_lt (Nat.sub_le _ _) HN.out) k hz.out
          have ck : wr.cell? ⟨w.heap.size, k, none⟩ = some (.int .u64 (dg (subN n m i) k : Nat)) := ha.cellIs (by rw [fnC_get _ (by omega)]; simp only [mixB, if_neg (show ¬ k = i by omega), if_neg (show ¬ (i < k ∧ k < k) by omega)])
          have fk : wr.frozen? ⟨w.heap.size, k, none⟩ = false := ha.free _
          have hd3 := dg_lt (subN n m i) k
          by_cases h0 : dg (subN n m i) k = 0
          · have h0' : ((dg (subN n m i) k : Int) == 0) = true := by rw [h0]; rfl
            have H0 := Lib.hid h0
            clear h0
            go_wp2_with (fail)
            go_roundw
            case rel =>
              refine ⟨k + 1, by omega, by go_num, ?_, ?_, hb.setOther (by simp <;> omega) _, hr.setOther (by simp <;> omega) _, hB.setCell (by simp) _⟩
              · intro s h1 h2
                by_cases e : s = k
                · subst e; exact H0.out
                · exact hz.out s h1 (by omega)
              · refine ha.set' (fnC_set hk17 ?_ ?_)
                · simp only [mixB, if_neg (show ¬ k = i by omega), if_pos (show i < k ∧ k < k + 1 by omega)]; rfl
                · intro j _ hj; simp only [mixB]; split
                  · rfl
                  · split <;> split <;> first | rfl | omega
            case measure => simp [intOf] <;> omega
          · have h0' : ((dg (subN n m i) k : Int) == 0) = false := by simp <;> omega
            have H0 := Lib.hid h0
            have hpos : 0 < dg (subN n m i) k := by omega
            clear h0
            have ci : wr.cell? ⟨w.heap.size, i, none⟩ = some (.int .u64 ((dg (subN n m i) i + 65536 : Nat) : Nat)) := ha.cellIs (by rw [fnC_get _ (by omega)]; simp only [mixB, if_true])
            have fi : wr.frozen? ⟨w.heap.size, i, none⟩ = false := ha.free _
            have ca2 : (wr.setCell ⟨w.heap.size, k, none⟩ (.int .u64 ((dg (subN n m i) k : Int) - 1))).cell? ⟨w.heap.size, i, none⟩ = some (.int .u64 ((dg (subN n m i) i + 65536 : Nat) : Nat)) := by
              rw [World.cell?_setCell_other _ _ _ _ (by simp <;> omega)]; exact ci
            have cb : wr.cell? ⟨w.heap.size + 1, i, none⟩ = some (.int .u64 (dg m i : Nat)) := hb.cellIs (fnC_get _ (by omega))
            go_wp2_with (fail)
            go_region
            go_wp2_with (fail)
            go_roundw
            case rel =>
              refine ⟨i + 1, by omega, by go_num, ?_, ((hb.setOther (by simp <;> omega) _).setOther (by simp <;> omega) _).drew, ((hr.setOther (by simp <;> omega) _).setOther (by simp <;> omega) _).drew, ((hB.setCell (by simp) _).setCell (by simp) _).drew⟩
              have hz' := hz.out
              have h0' := H0.out
              refine (((ha.set' (c' := fnC fun j => if j = k then dg (subN n m i) k - 1 else mixB (subN n m i) i k j) (fnC_set hk17 ?_ ?_)).set' (fnC_set hlt ?_ ?_))).drew
              · rw [if_pos rfl]; omega
              · intro j _ hj; rw [if_neg hj]
              · rw [sub_borrow rfl HR.out hd2 hbr hik hz' h0', if_neg (by omega), if_pos rfl]; omega
              · intro j _ hj
                rw [sub_borrow rfl HR.out hd2 hbr hik hz' h0']
                simp only [mixB, if_neg hj]
                by_cases h1 : j < i
                · rw [if_pos h1, if_neg (by omega), if_neg (by omega)]
                · rw [if_neg h1]
                  by_cases h2 : j < k
                  · rw [if_pos h2, if_neg (by omega), if_pos (by omega)]
                  · rw [if_neg h2]
                    by_cases h3 : j = k
                    · rw [if_pos h3, if_pos h3]
                    · rw [if_neg h3, if_neg h3, if_neg (by omega)]
            case measure => simp [intOf] <;> omega
      · go_wp2_with (fail)
        go_quiet (fail)
        go_wp2_with (fail)
        go_region
        go_wp2_with (fail)
        go_roundw
        case rel =>
          refine ⟨i + 1, by omega, by go_num, ?_, (hb.drewN _).setOther (by simp <;> omega) _, (hr.drewN _).setOther (by simp <;> omega) _, (below_drewN hB _).setCell (by simp) _⟩
          refine (ha.drewN _).set' (fnC_set hlt ?_ ?_)
          · rw [sub_plain rfl HR.out (by omega), if_pos rfl]; omega
          · intro j _ hj
            rw [sub_plain rfl HR.out (by omega), if_neg hj]
        case measure => simp [intOf] <;> omega
    · obtain rfl : i = 17 := by omega
      have hs := bigC_size (subN n m 17)
      have H1 := Lib.hid hs
      clear hs
      go_wp2_with (first | (refine wpList_load_row rfl _ _ rfl _ rfl _ _ _ _ ha Try.underlying76 rfl (by rw [H1.out]; kernel_rfl) ?_) | (refine wpList_store_row rfl _ _ _ rfl _ rfl _ rfl _ _ hr (by rw [H1.out]; kernel_rfl) (by rw [H1.out, bigC_size]) (fnC_one _) ?_))
      refine bodyPost_ret (results_cell_row rfl _ _ _ _ _ _ _ rfl (hr.row _) Try.underlying76 rfl (by rw [H1.out]; kernel_rfl)) rfl ⟨?_, Below.setRow hB (by omega) _⟩
      rw [show subN n m 17 = n - m by unfold subN; rw [low_all (Nat.lt_of_le_of_lt HM.out HN.out)]]
end Go.Proofs.Ythkklhfnmodpnaa
