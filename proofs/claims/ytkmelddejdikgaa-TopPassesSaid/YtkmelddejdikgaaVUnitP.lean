/-
  Unit vectors in the package.
-/
import Derived.Test.YtkmelddejdikgaaVUnit
set_option linter.unusedSimpArgs false
set_option linter.unusedVariables false
namespace Go.Proofs.Ytkmelddejdikgaa
open Go.RowKit PM Dt
set_option maxRecDepth 100000 in
set_option maxHeartbeats 1500000 in
theorem vunit_any (f : Nat → Int) (w : World) (hI : ∀ i, i < 3 → I64 (f i)) : Calls Try.prog 28 #[.agg (vfn f)] w fun e w' => e = .returned (.tuple #[.agg (vfn (vunF f)), .int .i64 (vunE f)]) ∧ Below w.heap.size w w' := by
  have V := Lib.hid (fun w => valid_any f w)
  have EQ0 := vec_eq0 f
  unfold vunF vunE
  obtain ⟨X, hX⟩ : ∃ X, vuX f = X := ⟨_, rfl⟩
  rw [hX]
  have HX := Lib.hid hX
  clear hX
  obtain ⟨bk, hk⟩ : ∃ b, okV f = b := ⟨_, rfl⟩
  obtain ⟨bz, hz⟩ : ∃ b, zV f = b := ⟨_, rfl⟩
  rw [hk] at V ⊢
  rw [hz] at EQ0 ⊢
  have HK := Lib.hid hk
  have HZ := Lib.hid hz
  have HI := Lib.hid hI
  clear hk hz hI
  go_enter Try.func28, Try.ntmps28
  go_upto_region 1 with (fail)
  rw [zero_vec]
  have p : blk ((w.alloc (.cells (vfn f) 31)).alloc (.cells (vfn fun _ => 0) 31)) w.heap.size (vfn f) 31 := (blk.new _ _ _).alloc _
  have r : blk ((w.alloc (.cells (vfn f) 31)).alloc (.cells (vfn fun _ => 0) 31)) (w.heap.size + 1) (vfn fun _ => 0) 31 := blk.new' (by simp)
  have hB : Below w.heap.size w ((w.alloc (.cells (vfn f) 31)).alloc (.cells (vfn fun _ => 0) 31)) := by go_grown
  generalize (w.alloc (.cells (vfn f) 31)).alloc (.cells (vfn fun _ => 0) 31) = w0 at *
  cases bk
  case false =>
    have HN := Lib.hid (fun b w t p => hyp3_any f b w t HI.out p)
    generalize fitV (n3 f) = N at *
    generalize fitE (n3 f) = E at *
    go_wp2_with (first | (refine wpList_load_rowG ?hw _ _ rfl _ rfl _ _ _ _ p Try.underlying31 rfl ?hi ?_; (case hw => (first | rfl | (simp [Region.wanted, yielded]; done))); (case hi => (rw [vfn_size]; kernel_rfl))) | (go_at_call 78; with_reducible refine (V.out _).mono ?_; rintro e w1 ⟨rfl, hb⟩; replace hB := hB.trans (hb.mono hB.size); replace p := p.below hb p.lt; replace r := r.below hb r.lt; clear hb) | (rw [zero_vec]; refine wpList_store_row rfl _ _ _ rfl _ rfl _ rfl _ _ (blk.new _ _ _) (by rw [vfn_size]; kernel_rfl) (by simp only [vfn_size]) (vfn_one _) ?_))
    have u := (blk.new w1 (vfn fun _ => 0) 31).row (vfn f)
    have hne : ∀ x, x < w1.heap.size → x ≠ w1.heap.size := fun x hx => Nat.ne_of_lt hx
    have hmb : w.heap.size + 1 < w1.heap.size := r.lt
    replace p := (p.alloc (.cells (vfn fun _ => 0) 31)).rowOther (hne _ p.lt) (vfn f)
    replace r := (r.alloc (.cells (vfn fun _ => 0) 31)).rowOther (hne _ r.lt) (vfn f)
    replace hB := Below.setRow (hB.alloc hB.size (.cells (vfn fun _ => 0) 31)) (g := w1.heap.size) hB.size (vfn f)
    clear hne
    generalize (w1.alloc (.cells (vfn fun _ => 0) 31)).setRow w1.heap.size (vfn f) = w2 at *
    generalize w1.heap.size = mb at *
    simp only [Act.put]
    go_loopg [] 0 (fun k_ wr => blk wr w.heap.size (vfn f) 31 ∧ blk wr (w.heap.size + 1) (vfn fun _ => 0) 31 ∧ blk wr mb (vfn f) 31 ∧ Below w.heap.size w wr)
    case atStart => exact ⟨p, r, u, hB⟩
    case round =>
      clear p r u hB
      obtain ⟨p, r, u, hB⟩ := hrel
      go_upto_region 12 with (first | (refine wpList_load_rowG ?hw _ _ rfl _ rfl _ _ _ _ p Try.underlying31 rfl ?hi ?_; (case hw => (first | rfl | (simp [Region.wanted, yielded]; done))); (case hi => (rw [vfn_size]; kernel_rfl))) | (go_at_call 78; with_reducible refine (V.out _).mono ?_; rintro e w1 ⟨rfl, hb⟩; replace hB := hB.trans (hb.mono hB.size); replace p := p.below hb p.lt; replace r := r.below hb r.lt; replace u := u.below hb u.lt; clear hb) | (go_at_call 80; refine (HN.out _ _ _ u).mono ?_; rintro e w3 ⟨rfl, rfl⟩))
      have n1 := blk.new w1 #[.int .i64 N] 2
      replace p := p.alloc (.cells #[.int .i64 N] 2)
      replace r := r.alloc (.cells #[.int .i64 N] 2)
      replace u := u.alloc (.cells #[.int .i64 N] 2)
      replace hB := hB.alloc hB.size (.cells #[.int .i64 N] 2)
      generalize w1.alloc (.cells #[.int .i64 N] 2) = w4 at *
      generalize w1.heap.size = nb at *
      go_wp2_with (first | (refine wpList_load_rowG ?hw _ _ rfl _ rfl _ _ _ _ p Try.underlying31 rfl ?hi ?_; (case hw => (first | rfl | (simp [Region.wanted, yielded]; done))); (case hi => (rw [vfn_size]; kernel_rfl))) | (go_at_call 78; with_reducible refine (V.out _).mono ?_; rintro e w1 ⟨rfl, hb⟩; replace hB := hB.trans (hb.mono hB.size); replace p := p.below hb p.lt; replace r := r.below hb r.lt; replace u := u.below hb u.lt; clear hb) | (go_at_call 81; refine (each_no _ _).mono ?_; rintro e w5 ⟨rfl, hb⟩; replace hB := hB.trans (hb.mono hB.size); replace r := r.below hb r.lt; clear hb) | (refine wpList_store_row rfl _ _ _ rfl _ rfl _ rfl _ _ r (by rw [vfn_size]; kernel_rfl) (by simp only [vfn_size]) (vfn_one _) ?_))
      refine bodyPost_ret (results_vec rfl _ _ _ _ _ _ _ rfl (r.row (vfn (fun _ => 0))) Try.underlying31 rfl (by rw [vfn_size]; kernel_rfl)) rfl ?_; refine ⟨?_, Below.setRow hB (by omega) _⟩
      rfl
  cases bz
  case true =>
    have e0 := Lib.hid (zV_yes HZ.out)
    go_wp2_with (first | (refine wpList_load_rowG ?hw _ _ rfl _ rfl _ _ _ _ p Try.underlying31 rfl ?hi ?_; (case hw => (first | rfl | (simp [Region.wanted, yielded]; done))); (case hi => (rw [vfn_size]; kernel_rfl))) | (go_at_call 78; with_reducible refine (V.out _).mono ?_; rintro e w1 ⟨rfl, hb⟩; replace hB := hB.trans (hb.mono hB.size); replace p := p.below hb p.lt; replace r := r.below hb r.lt; clear hb) | (refine wpList_store_row rfl _ _ _ rfl _ rfl _ rfl _ _ r (by rw [vfn_size]; kernel_rfl) (by simp only [vfn_size]) (vfn_one _) ?_))
    refine bodyPost_ret (results_vec rfl _ _ _ _ _ _ _ rfl (r.row (vfn f)) Try.underlying31 rfl (by rw [vfn_size]; kernel_rfl)) rfl ?_; refine ⟨?_, Below.setRow hB (by omega) _⟩
    rw [e0.out]; rfl
  case false =>
    have HL := Lib.hid (zV_no HZ.out)
    have HU := Lib.hid (ok_upb3 HK.out)
    obtain ⟨F, hF⟩ : ∃ F, shft 3 45 f = F := ⟨_, rfl⟩
    have HF := Lib.hid hF
    clear hF
    go_wp2_with (first | (refine wpList_load_rowG ?hw _ _ rfl _ rfl _ _ _ _ p Try.underlying31 rfl ?hi ?_; (case hw => (first | rfl | (simp [Region.wanted, yielded]; done))); (case hi => (rw [vfn_size]; kernel_rfl))) | (go_at_call 78; with_reducible refine (V.out _).mono ?_; rintro e w1 ⟨rfl, hb⟩; replace hB := hB.trans (hb.mono hB.size); replace p := p.below hb p.lt; replace r := r.below hb r.lt; clear hb) | (rw [zero_vec]; refine wpList_store_row rfl _ _ _ rfl _ rfl _ rfl _ _ (blk.new _ _ _) (by rw [vfn_size]; kernel_rfl) (by simp only [vfn_size]) (vfn_one _) ?_))
    have u := (blk.new w1 (vfn fun _ => 0) 31).row (vfn f)
    have hne : ∀ x, x < w1.heap.size → x ≠ w1.heap.size := fun x hx => Nat.ne_of_lt hx
    have hmb : w.heap.size + 1 < w1.heap.size := r.lt
    replace p := (p.alloc (.cells (vfn fun _ => 0) 31)).rowOther (hne _ p.lt) (vfn f)
    replace r := (r.alloc (.cells (vfn fun _ => 0) 31)).rowOther (hne _ r.lt) (vfn f)
    replace hB := Below.setRow (hB.alloc hB.size (.cells (vfn fun _ => 0) 31)) (g := w1.heap.size) hB.size (vfn f)
    clear hne
    generalize (w1.alloc (.cells (vfn fun _ => 0) 31)).setRow w1.heap.size (vfn f) = w2 at *
    generalize w1.heap.size = mb at *
    simp only [Act.put]
    go_loopg [] 45 (fun k_ wr => ∃ (k : Nat) (h : Nat → Int), k = k_ ∧ Hid (low 3 k h) ∧ Hid (upb 3 h) ∧ Hid (shft 3 k h = F) ∧ blk wr w.heap.size (vfn f) 31 ∧ blk wr (w.heap.size + 1) (vfn fun _ => 0) 31 ∧ blk wr mb (vfn h) 31 ∧ Below w.heap.size w wr)
    case atStart => exact ⟨45, f, rfl, HL, HU, HF, p, r, u, hB⟩
    case round =>
      clear p r u hB HL HU
      obtain ⟨k, h, hk_, hlow, hupb, hF, p, r, u, hB⟩ := hrel
      have S0 := Lib.hid (fun w => smC_any (h 0) w)
      have S1 := Lib.hid (fun w => smC_any (h 1) w)
      have S2 := Lib.hid (fun w => smC_any (h 2) w)
      obtain ⟨bs, hs⟩ : ∃ b, sml 3 h = b := ⟨_, rfl⟩
      have HS := Lib.hid hs
      obtain ⟨b0, h0⟩ : ∃ b, sm (h 0) = b := ⟨_, rfl⟩
      obtain ⟨b1, h1⟩ : ∃ b, sm (h 1) = b := ⟨_, rfl⟩
      obtain ⟨b2, h2⟩ : ∃ b, sm (h 2) = b := ⟨_, rfl⟩
      have hbs : bs = (b0 && (b1 && (b2 && true))) := by rw [← hs, ← h0, ← h1, ← h2]; rfl
      rw [h0] at S0
      rw [h1] at S1
      rw [h2] at S2
      clear h0 h1 h2 hs
      cases bs
      · have e : Hid (h = F) := (shft_big HS.out).symm.trans hF.out
        obtain rfl : h = F := e.out
        have HN := Lib.hid (fun b w t p => hyp3_any h b w t (fun i hi => upb_I hupb.out i hi) p)
        have UF := Lib.hid (unit_fit hupb.out HS.out)
        have HX2 : Hid (X = fun i => ratioV (h i) 1073741824 (fitV (n3 h))) := by show _ = _; rw [← HX.out]; unfold vuX; rw [HF.out]
        generalize fitV (n3 h) = N at *
        generalize fitE (n3 h) = E at *
        have h3 : b0 = false ∨ (b0 = true ∧ b1 = false) ∨ (b0 = true ∧ b1 = true ∧ b2 = false) := by cases b0 <;> cases b1 <;> cases b2 <;> first | exact .inl rfl | exact .inr (.inl ⟨rfl, rfl⟩) | exact .inr (.inr ⟨rfl, rfl, rfl⟩) | cases hbs
        clear hbs
        rcases h3 with rfl | ⟨rfl, rfl⟩ | ⟨rfl, rfl, rfl⟩
        all_goals
          go_upto_region 12 with (first | (refine wpList_load_rowG ?hw _ _ rfl _ rfl _ _ _ _ p Try.underlying31 rfl ?hi ?_; (case hw => (first | rfl | (simp [Region.wanted, yielded]; done))); (case hi => (rw [vfn_size]; kernel_rfl))) | (go_at_call 78; with_reducible refine (V.out _).mono ?_; rintro e w1 ⟨rfl, hb⟩; replace hB := hB.trans (hb.mono hB.size); replace p := p.below hb p.lt; replace r := r.below hb r.lt; replace u := u.below hb u.lt; clear hb; have a0 : w1.cell? ⟨mb, 0, none⟩ = some (.int .i64 (h 0)) := u.cellIs (vfn_get _ (by omega)); have a1 : w1.cell? ⟨mb, 1, none⟩ = some (.int .i64 (h 1)) := u.cellIs (vfn_get _ (by omega)); have a2 : w1.cell? ⟨mb, 2, none⟩ = some (.int .i64 (h 2)) := u.cellIs (vfn_get _ (by omega))) | (go_at_call 79; with_reducible refine (S0.out _).mono ?_; rintro e wq ⟨rfl, rfl⟩) | (go_at_call 79; with_reducible refine (S1.out _).mono ?_; rintro e wq ⟨rfl, rfl⟩) | (go_at_call 79; with_reducible refine (S2.out _).mono ?_; rintro e wq ⟨rfl, rfl⟩) | (go_at_call 80; refine (HN.out _ _ _ u).mono ?_; rintro e w3 ⟨rfl, rfl⟩))
          have n1 := blk.new w1 #[.int .i64 N] 2
          replace p := p.alloc (.cells #[.int .i64 N] 2)
          replace r := r.alloc (.cells #[.int .i64 N] 2)
          replace u := u.alloc (.cells #[.int .i64 N] 2)
          replace hB := hB.alloc hB.size (.cells #[.int .i64 N] 2)
          generalize w1.alloc (.cells #[.int .i64 N] 2) = w4 at *
          generalize w1.heap.size = nb at *
          go_wp2_with (first | (refine wpList_load_rowG ?hw _ _ rfl _ rfl _ _ _ _ p Try.underlying31 rfl ?hi ?_; (case hw => (first | rfl | (simp [Region.wanted, yielded]; done))); (case hi => (rw [vfn_size]; kernel_rfl))) | (go_at_call 78; with_reducible refine (V.out _).mono ?_; rintro e w1 ⟨rfl, hb⟩; replace hB := hB.trans (hb.mono hB.size); replace p := p.below hb p.lt; replace r := r.below hb r.lt; replace u := u.below hb u.lt; replace n1 := n1.below hb n1.lt; clear hb) | (go_at_call 81; refine (eachUnit_any (fun i => ratioV (h i) 1073741824 N) (fun i => ratioE (h i) 1073741824 N) _ _ _ (fun i hi wx hx => vunitC_any h N _ _ _ wx hupb.out UF.out.1 (u.below hx u.lt) (n1.below hx n1.lt) i hi)).mono ?_; rintro e w5 ⟨rfl, hb⟩; rw [(each_good UF.out.2).1, (each_good UF.out.2).2, ← HX2.out]; replace hB := hB.trans (hb.mono hB.size); replace r := r.below hb r.lt; clear hb) | (refine wpList_store_row rfl _ _ _ rfl _ rfl _ rfl _ _ r (by rw [vfn_size]; kernel_rfl) (by simp only [vfn_size]) (vfn_one _) ?_))
          refine bodyPost_ret (results_vec rfl _ _ _ _ _ _ _ rfl (r.row (vfn X)) Try.underlying31 rfl (by rw [vfn_size]; kernel_rfl)) rfl ?_; refine ⟨?_, Below.setRow hB (by omega) _⟩
          rfl
      · obtain ⟨rfl, rfl, rfl⟩ : b0 = true ∧ b1 = true ∧ b2 = true := by cases b0 <;> cases b1 <;> cases b2 <;> first | exact ⟨rfl, rfl, rfl⟩ | cases hbs
        clear hbs
        obtain ⟨m, rfl⟩ : ∃ m, k = m + 1 := by
          cases k with
          | zero => have := low_zero hlow.out; rw [HS.out] at this; cases this
          | succ m => exact ⟨m, rfl⟩
        go_wp2_with (first | (refine wpList_load_rowG ?hw _ _ rfl _ rfl _ _ _ _ p Try.underlying31 rfl ?hi ?_; (case hw => (first | rfl | (simp [Region.wanted, yielded]; done))); (case hi => (rw [vfn_size]; kernel_rfl))) | (go_at_call 78; with_reducible refine (V.out _).mono ?_; rintro e w1 ⟨rfl, hb⟩; replace hB := hB.trans (hb.mono hB.size); replace p := p.below hb p.lt; replace r := r.below hb r.lt; replace u := u.below hb u.lt; clear hb; have a0 : w1.cell? ⟨mb, 0, none⟩ = some (.int .i64 (h 0)) := u.cellIs (vfn_get _ (by omega)); have a1 : w1.cell? ⟨mb, 1, none⟩ = some (.int .i64 (h 1)) := u.cellIs (vfn_get _ (by omega)); have a2 : w1.cell? ⟨mb, 2, none⟩ = some (.int .i64 (h 2)) := u.cellIs (vfn_get _ (by omega))) | (go_at_call 79; with_reducible refine (S0.out _).mono ?_; rintro e wq ⟨rfl, rfl⟩) | (go_at_call 79; with_reducible refine (S1.out _).mono ?_; rintro e wq ⟨rfl, rfl⟩) | (go_at_call 79; with_reducible refine (S2.out _).mono ?_; rintro e wq ⟨rfl, rfl⟩))
        clear a0 a1 a2
        go_loopg [38] 3 (fun g3 iv wi => ∃ j : Nat, g3 + j = 3 ∧ iv = .int .i64 j ∧ blk wi w.heap.size (vfn f) 31 ∧ blk wi (w.heap.size + 1) (vfn fun _ => 0) 31 ∧ blk wi mb (vfn (fun q => if q < j then 2 * h q else h q)) 31 ∧ Below w.heap.size w wi)
        case atStart => exact ⟨0, by omega, rfl, p, r, by rw [show vfn (fun q => if q < 0 then 2 * h q else h q) = vfn h from vfn_congr fun q _ => by simp]; exact u, hB⟩
        case round =>
          clear p r u hB
          obtain ⟨j, hj, rfl, p, r, u, hB⟩ := hrel
          by_cases hjn : j < 3
          · have hdk : decide ((j : Int) < 3) = true := decide_eq_true (by omega)
            have hdk' : decide (j < 3) = true := decide_eq_true hjn
            have hjn' : (j : Int) < 3 := by omega
            have hw3 : IntKind.i64.wrap ((j : Int) + 1) = ((j + 1 : Nat) : Int) := by rw [IntKind.wrap_i64]; omega
            have hw2 : IntKind.i64.wrap (h j * 2) = 2 * h j := by have := hupb.out j hjn; rw [IntKind.wrap_i64]; omega
            have ck : wr.cell? ⟨mb, j, none⟩ = some (.int .i64 (h j)) := (u.cellIs (vfn_get _ hjn)).trans (by simp)
            have fz : wr.frozen? ⟨mb, j, none⟩ = false := u.free _
            go_wp2_with (fail)
            go_roundg (3 - (j + 1))
            case rel =>
              refine ⟨j + 1, by omega, rfl, p.setOther (by simp; omega) _, r.setOther (by simp; omega) _, u.set' (vfn_set hjn (by simp) (fun q hq hne => ?_)), hB.setCell (by simp; omega) _⟩
              have : (q < j + 1) = (q < j) := propext (by omega)
              simp only [this]
            case measure => omega
          · obtain rfl : j = 3 := by omega
            have e4 : vfn (fun q => if q < 3 then 2 * h q else h q) = vfn (dbl h) := vfn_congr fun q hq => by simp [hq, dbl]
            rw [e4] at u
            go_wp2_with (fail)
            go_roundg m
            case rel => exact ⟨m, dbl h, rfl, low_step hlow.out, upb_step HS.out, (shft_step HS.out).symm.trans hF.out, p, r, u, hB⟩
            case measure => omega
end Go.Proofs.Ytkmelddejdikgaa
