/-
  Unit vectors in the specification.
-/
import Derived.Test.YtcgpcehdeihalaaVUnit
set_option linter.unusedSimpArgs false
set_option linter.unusedVariables false
namespace Go.Proofs.Ytcgpcehdeihalaa
open Go.RowKit PM Dt
set_option maxRecDepth 100000 in
set_option maxHeartbeats 1500000 in
theorem rvunit_any (f : Nat → Int) (w : World) (hI : ∀ i, i < 3 → I64 (f i)) : Calls Try.prog 71 #[.agg (vfn f)] w fun e w' => e = .returned (.tuple #[.agg (vfn (vunF f)), .int .i64 (vunE f)]) ∧ Below w.heap.size w w' := by
  have V := Lib.hid (fun w => rvalid_any f w)
  have EQ0 := vec_eq0 f
  unfold vunF vunE
  obtain ⟨X, hX⟩ : ∃ X, vuX f = X := ⟨_, rfl⟩
  rw [hX]
  have HX := Lib.hid hX
  clear hX
  obtain ⟨bk, hk⟩ : ∃ b, okV f = b := ⟨_, rfl⟩
  obtain ⟨bz, hz⟩ : ∃ b, zV f = b := ⟨_, rfl⟩
  rw [hk] at V ⊢
  rw [hz] at EQ0 ⊢
  have HK := Lib.hid hk
  have HZ := Lib.hid hz
  have HI := Lib.hid hI
  clear hk hz hI
  go_enter Try.func71, Try.ntmps71
  go_upto_region 1 with (fail)
  rw [zero_vec]
  have p : blk ((w.alloc (.cells (vfn f) 25)).alloc (.cells (vfn fun _ => 0) 25)) w.heap.size (vfn f) 25 := (blk.new _ _ _).alloc _
  have r : blk ((w.alloc (.cells (vfn f) 25)).alloc (.cells (vfn fun _ => 0) 25)) (w.heap.size + 1) (vfn fun _ => 0) 25 := blk.new' (by simp)
  have hB : Below w.heap.size w ((w.alloc (.cells (vfn f) 25)).alloc (.cells (vfn fun _ => 0) 25)) := by go_grown
  generalize (w.alloc (.cells (vfn f) 25)).alloc (.cells (vfn fun _ => 0) 25) = w0 at *
  cases bk
  · go_wp2_with (first | (refine wpList_load_rowG ?hw _ _ rfl _ rfl _ _ _ _ p Try.underlying25 rfl ?hi ?_; (case hw => (first | rfl | (simp [Region.wanted, yielded]; done))); (case hi => (rw [vfn_size]; kernel_rfl))) | (go_at_call 97; with_reducible refine (V.out _).mono ?_; rintro e w1 ⟨rfl, hb⟩; replace hB := hB.trans (hb.mono hB.size); replace p := p.below hb p.lt; replace r := r.below hb r.lt; clear hb) | (rw [zero_vec]; refine wpList_store_row rfl _ _ _ rfl _ rfl _ rfl _ _ r (by rw [vfn_size]; kernel_rfl) (by simp only [vfn_size]) (vfn_one _) ?_))
    refine bodyPost_ret (results_vec rfl _ _ _ _ _ _ _ rfl (r.row (vfn (fun _ => 0))) Try.underlying25 rfl (by rw [vfn_size]; kernel_rfl)) rfl ?_; refine ⟨?_, Below.setRow hB (by omega) _⟩
    rfl
  cases bz
  case true =>
    have e0 := Lib.hid (zV_yes HZ.out)
    go_wp2_with (first | (refine wpList_load_rowG ?hw _ _ rfl _ rfl _ _ _ _ p Try.underlying25 rfl ?hi ?_; (case hw => (first | rfl | (simp [Region.wanted, yielded]; done))); (case hi => (rw [vfn_size]; kernel_rfl))) | (go_at_call 97; with_reducible refine (V.out _).mono ?_; rintro e w1 ⟨rfl, hb⟩; replace hB := hB.trans (hb.mono hB.size); replace p := p.below hb p.lt; replace r := r.below hb r.lt; clear hb) | (rw [zero_vec]; refine wpList_store_row rfl _ _ _ rfl _ rfl _ rfl _ _ r (by rw [vfn_size]; kernel_rfl) (by simp only [vfn_size]) (vfn_one _) ?_))
    refine bodyPost_ret (results_vec rfl _ _ _ _ _ _ _ rfl (r.row (vfn (fun _ => 0))) Try.underlying25 rfl (by rw [vfn_size]; kernel_rfl)) rfl ?_; refine ⟨?_, Below.setRow hB (by omega) _⟩
    rfl
  have HL := zV_no HZ.out
  have HU := ok_upb3 HK.out
  have SH := Lib.hid (fun a c w hr => shifted_any 3 f a c w (by omega) (by omega) hr HL HU)
  have hFu := Lib.hid (shft_upb 45 f HU)
  have hnI := fitV_I (n3 (shft 3 45 f))
  obtain ⟨F, hF⟩ : ∃ F, shft 3 45 f = F := ⟨_, rfl⟩
  rw [hF] at SH hFu hnI
  have HN := Lib.hid (fun b c w p => rhyp3_any F b c w (fun i hi => upb_I hFu.out i hi) p)
  have HX2 : Hid (∀ i, X i = ratioV (F i) 1073741824 (fitV (n3 F))) := by intro i; rw [← HX.out]; unfold vuX; rw [hF]
  generalize fitV (n3 F) = N at *
  generalize fitE (n3 F) = E at *
  clear hF HL HU HX HK HZ
  go_upto_region 6 with (first | (refine wpList_load_rowG ?hw _ _ rfl _ rfl _ _ _ _ p Try.underlying25 rfl ?hi ?_; (case hw => (first | rfl | (simp [Region.wanted, yielded]; done))); (case hi => (rw [vfn_size]; kernel_rfl))) | (go_at_call 97; with_reducible refine (V.out _).mono ?_; rintro e w1 ⟨rfl, hb⟩; replace hB := hB.trans (hb.mono hB.size); replace p := p.below hb p.lt; replace r := r.below hb r.lt; clear hb) | (go_at_call 98; refine (SH.out _ _ _ (rowb_qfn p (fun j hj => vfn_get f hj))).mono ?_; rintro e w2 ⟨pb, cap, rfl, rp, hpb, hb⟩; have hpb2 : w.heap.size < pb := Nat.lt_of_lt_of_le p.lt hpb; replace hB := hB.trans (hb.mono hB.size); replace p := p.below hb p.lt; replace r := r.below hb r.lt; clear hb hpb))
  go_upto_region 7 with (go_at_call 99; refine (HN.out _ _ _ rp).mono ?_; rintro e w3 ⟨rfl, hb⟩; replace hB := hB.trans (hb.mono hB.size); replace p := p.below hb p.lt; replace r := r.below hb r.lt; replace rp := rp.below hb rp.lt; clear hb)
  go_wp2_with (fail)
  go_loopg [7] 3 (fun g_ iv wr => ∃ k : Nat, g_ + k = 3 ∧ iv = .int .i64 k ∧ blk wr w.heap.size (vfn (fun q => if q < k then X q else f q)) 25 ∧ blk wr (w.heap.size + 1) (vfn fun _ => 0) 25 ∧ rowb wr pb 3 F ∧ Below w.heap.size w wr)
  case atStart => exact ⟨0, rfl, rfl, by rw [show vfn (fun q => if q < 0 then X q else f q) = vfn f from vfn_congr fun q _ => by simp]; exact p, r, rp, hB⟩
  case round =>
    clear p r rp hB
    obtain ⟨k, hk, rfl, p, r, rp, hB⟩ := hrel
    by_cases hkn : k < 3
    · have hdk : decide ((k : Int) < 3) = true := decide_eq_true (by omega)
      have hdk' : decide (k < 3) = true := decide_eq_true hkn
      have hw3 : IntKind.i64.wrap ((k : Int) + 1) = ((k + 1 : Nat) : Int) := by rw [IntKind.wrap_i64]; omega
      have hk3 : (k : Int) < 3 := by omega
      have ck : wr.cell? ⟨pb, k, none⟩ = some (.int .i64 (F k)) := rp.cell hkn
      have RK := Lib.hid (fun w => rratio_any (F k) 1073741824 N w (upb_I hFu.out k hkn) ⟨by decide, by decide⟩ hnI)
      rw [← HX2.out k] at RK
      generalize ratioE (F k) 1073741824 N = YE at *
      go_wp2_with (go_at_call 93; refine (RK.out _).mono ?_; rintro e w5 ⟨rfl, hb⟩; replace hB := hB.trans (hb.mono hB.size); replace p := p.below hb p.lt; replace r := r.below hb r.lt; replace rp := rp.below hb rp.lt; clear hb; have fz : w5.frozen? ⟨w.heap.size, k, none⟩ = false := p.free _; have cz : w5.cell? ⟨w.heap.size, k, none⟩ = some (.int .i64 (f k)) := (p.cellIs (vfn_get _ hkn)).trans (by simp))
      go_roundg (3 - (k + 1))
      case rel =>
        refine ⟨k + 1, by omega, rfl, p.set' (vfn_set hkn (by simp) (fun q hq hne => ?_)), r.setOther (by simp) _, rp.setOther (by simp; omega) _, hB.setCell (by simp) _⟩
        have : (q < k + 1) = (q < k) := propext (by omega)
        simp only [this]
      case measure => omega
    · obtain rfl : k = 3 := by omega
      have e4 : vfn (fun q => if q < 3 then X q else f q) = vfn X := vfn_congr fun q hq => by simp [hq]
      rw [e4] at p
      go_wp2_with (first | (refine wpList_load_rowG ?hw _ _ rfl _ rfl _ _ _ _ p Try.underlying25 rfl ?hi ?_; (case hw => (first | rfl | (simp [Region.wanted, yielded]; done))); (case hi => (rw [vfn_size]; kernel_rfl))) | (refine wpList_store_row rfl _ _ _ rfl _ rfl _ rfl _ _ r (by rw [vfn_size]; kernel_rfl) (by simp only [vfn_size]) (vfn_one _) ?_))
      refine bodyPost_ret (results_vec rfl _ _ _ _ _ _ _ rfl (r.row (vfn X)) Try.underlying25 rfl (by rw [vfn_size]; kernel_rfl)) rfl ?_; refine ⟨?_, Below.setRow hB (by omega) _⟩
      rfl
end Go.Proofs.Ytcgpcehdeihalaa
