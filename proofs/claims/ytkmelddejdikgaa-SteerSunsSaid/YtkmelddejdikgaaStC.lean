/-
  Unit vectors in the package. Controls: what is wanted (Rest, Point), and the axis across.
-/
import Derived.Test.YtkmelddejdikgaaVUnit
import Derived.Test.YtkmelddejdikgaaStA
import Derived.Test.YtkmelddejdikgaaVLimP
import Derived.Test.YtkmelddejdikgaaLawVec
import Derived.Test.YtkmelddejdikgaaWhC
set_option linter.unusedSimpArgs false
set_option linter.unusedVariables false
namespace Go.Proofs.Ytkmelddejdikgaa
open Go.RowKit PM Dt
set_option maxRecDepth 100000 in
set_option maxHeartbeats 1500000 in
theorem vunit_any (f : Nat → Int) (w : World) (hI : ∀ i, i < 3 → I64 (f i)) : Calls Try.prog 28 #[.agg (vfn f)] w fun e w' => e = .returned (.tuple #[.agg (vfn (vunF f)), .int .i64 (vunE f)]) ∧ Below w.heap.size w w' := by
  have V := Lib.hid (fun w => valid_any f w)
  have EQ0 := vec_eq0 f
  unfold vunF vunE
  obtain ⟨X, hX⟩ : ∃ X, vuX f = X := ⟨_, rfl⟩
  rw [hX]
  have HX := Lib.hid hX
  clear hX
  obtain ⟨bk, hk⟩ : ∃ b, okV f = b := ⟨_, rfl⟩
  obtain ⟨bz, hz⟩ : ∃ b, zV f = b := ⟨_, rfl⟩
  rw [hk] at V ⊢
  rw [hz] at EQ0 ⊢
  have HK := Lib.hid hk
  have HZ := Lib.hid hz
  have HI := Lib.hid hI
  clear hk hz hI
  go_enter Try.func28, Try.ntmps28
  go_upto_region 1 with (fail)
  rw [zero_vec]
  have p : blk ((w.alloc (.cells (vfn f) 31)).alloc (.cells (vfn fun _ => 0) 31)) w.heap.size (vfn f) 31 := (blk.new _ _ _).alloc _
  have r : blk ((w.alloc (.cells (vfn f) 31)).alloc (.cells (vfn fun _ => 0) 31)) (w.heap.size + 1) (vfn fun _ => 0) 31 := blk.new' (by simp)
  have hB : Below w.heap.size w ((w.alloc (.cells (vfn f) 31)).alloc (.cells (vfn fun _ => 0) 31)) := by go_grown
  generalize (w.alloc (.cells (vfn f) 31)).alloc (.cells (vfn fun _ => 0) 31) = w0 at *
  cases bk
  case false =>
    have HN := Lib.hid (fun b w t p => hyp3_any f b w t HI.out p)
    generalize fitV (n3 f) = N at *
    generalize fitE (n3 f) = E at *
    go_wp2_with (first | (refine wpList_load_rowG ?hw _ _ rfl _ rfl _ _ _ _ p Try.underlying31 rfl ?hi ?_; (case hw => (first | rfl | (simp [Region.wanted, yielded]; done))); (case hi => (rw [vfn_size]; kernel_rfl))) | (go_at_call 78; with_reducible refine (V.out _).mono ?_; rintro e w1 ⟨rfl, hb⟩; replace hB := hB.trans (hb.mono hB.size); replace p := p.below hb p.lt; replace r := r.below hb r.lt; clear hb) | (rw [zero_vec]; refine wpList_store_row rfl _ _ _ rfl _ rfl _ rfl _ _ (blk.new _ _ _) (by rw [vfn_size]; kernel_rfl) (by simp only [vfn_size]) (vfn_one _) ?_))
    have u := (blk.new w1 (vfn fun _ => 0) 31).row (vfn f)
    have hne : ∀ x, x < w1.heap.size → x ≠ w1.heap.size := fun x hx => Nat.ne_of_lt hx
    have hmb : w.heap.size + 1 < w1.heap.size := r.lt
    replace p := (p.alloc (.cells (vfn fun _ => 0) 31)).rowOther (hne _ p.lt) (vfn f)
    replace r := (r.alloc (.cells (vfn fun _ => 0) 31)).rowOther (hne _ r.lt) (vfn f)
    replace hB := Below.setRow (hB.alloc hB.size (.cells (vfn fun _ => 0) 31)) (g := w1.heap.size) hB.size (vfn f)
    clear hne
    generalize (w1.alloc (.cells (vfn fun _ => 0) 31)).setRow w1.heap.size (vfn f) = w2 at *
    generalize w1.heap.size = mb at *
    simp only [Act.put]
    go_loopg [] 0 (fun k_ wr => blk wr w.heap.size (vfn f) 31 ∧ blk wr (w.heap.size + 1) (vfn fun _ => 0) 31 ∧ blk wr mb (vfn f) 31 ∧ Below w.heap.size w wr)
    case atStart => exact ⟨p, r, u, hB⟩
    case round =>
      clear p r u hB
      obtain ⟨p, r, u, hB⟩ := hrel
      go_upto_region 12 with (first | (refine wpList_load_rowG ?hw _ _ rfl _ rfl _ _ _ _ p Try.underlying31 rfl ?hi ?_; (case hw => (first | rfl | (simp [Region.wanted, yielded]; done))); (case hi => (rw [vfn_size]; kernel_rfl))) | (go_at_call 78; with_reducible refine (V.out _).mono ?_; rintro e w1 ⟨rfl, hb⟩; replace hB := hB.trans (hb.mono hB.size); replace p := p.below hb p.lt; replace r := r.below hb r.lt; replace u := u.below hb u.lt; clear hb) | (go_at_call 80; refine (HN.out _ _ _ u).mono ?_; rintro e w3 ⟨rfl, rfl⟩))
      have n1 := blk.new w1 #[.int .i64 N] 2
      replace p := p.alloc (.cells #[.int .i64 N] 2)
      replace r := r.alloc (.cells #[.int .i64 N] 2)
      replace u := u.alloc (.cells #[.int .i64 N] 2)
      replace hB := hB.alloc hB.size (.cells #[.int .i64 N] 2)
      generalize w1.alloc (.cells #[.int .i64 N] 2) = w4 at *
      generalize w1.heap.size = nb at *
      go_wp2_with (first | (refine wpList_load_rowG ?hw _ _ rfl _ rfl _ _ _ _ p Try.underlying31 rfl ?hi ?_; (case hw => (first | rfl | (simp [Region.wanted, yielded]; done))); (case hi => (rw [vfn_size]; kernel_rfl))) | (go_at_call 78; with_reducible refine (V.out _).mono ?_; rintro e w1 ⟨rfl, hb⟩; replace hB := hB.trans (hb.mono hB.size); replace p := p.below hb p.lt; replace r := r.below hb r.lt; replace u := u.below hb u.lt; clear hb) | (go_at_call 81; refine (each_no _ _).mono ?_; rintro e w5 ⟨rfl, hb⟩; replace hB := hB.trans (hb.mono hB.size); replace r := r.below hb r.lt; clear hb) | (refine wpList_store_row rfl _ _ _ rfl _ rfl _ rfl _ _ r (by rw [vfn_size]; kernel_rfl) (by simp only [vfn_size]) (vfn_one _) ?_))
      refine bodyPost_ret (results_vec rfl _ _ _ _ _ _ _ rfl (r.row (vfn (fun _ => 0))) Try.underlying31 rfl (by rw [vfn_size]; kernel_rfl)) rfl ?_; refine ⟨?_, Below.setRow hB (by omega) _⟩
      rfl
  cases bz
  case true =>
    have e0 := Lib.hid (zV_yes HZ.out)
    go_wp2_with (first | (refine wpList_load_rowG ?hw _ _ rfl _ rfl _ _ _ _ p Try.underlying31 rfl ?hi ?_; (case hw => (first | rfl | (simp [Region.wanted, yielded]; done))); (case hi => (rw [vfn_size]; kernel_rfl))) | (go_at_call 78; with_reducible refine (V.out _).mono ?_; rintro e w1 ⟨rfl, hb⟩; replace hB := hB.trans (hb.mono hB.size); replace p := p.below hb p.lt; replace r := r.below hb r.lt; clear hb) | (refine wpList_store_row rfl _ _ _ rfl _ rfl _ rfl _ _ r (by rw [vfn_size]; kernel_rfl) (by simp only [vfn_size]) (vfn_one _) ?_))
    refine bodyPost_ret (results_vec rfl _ _ _ _ _ _ _ rfl (r.row (vfn f)) Try.underlying31 rfl (by rw [vfn_size]; kernel_rfl)) rfl ?_; refine ⟨?_, Below.setRow hB (by omega) _⟩
    rw [e0.out]; rfl
  case false =>
    have HL := Lib.hid (zV_no HZ.out)
    have HU := Lib.hid (ok_upb3 HK.out)
    obtain ⟨F, hF⟩ : ∃ F, shft 3 45 f = F := ⟨_, rfl⟩
    have HF := Lib.hid hF
    clear hF
    go_wp2_with (first | (refine wpList_load_rowG ?hw _ _ rfl _ rfl _ _ _ _ p Try.underlying31 rfl ?hi ?_; (case hw => (first | rfl | (simp [Region.wanted, yielded]; done))); (case hi => (rw [vfn_size]; kernel_rfl))) | (go_at_call 78; with_reducible refine (V.out _).mono ?_; rintro e w1 ⟨rfl, hb⟩; replace hB := hB.trans (hb.mono hB.size); replace p := p.below hb p.lt; replace r := r.below hb r.lt; clear hb) | (rw [zero_vec]; refine wpList_store_row rfl _ _ _ rfl _ rfl _ rfl _ _ (blk.new _ _ _) (by rw [vfn_size]; kernel_rfl) (by simp only [vfn_size]) (vfn_one _) ?_))
    have u := (blk.new w1 (vfn fun _ => 0) 31).row (vfn f)
    have hne : ∀ x, x < w1.heap.size → x ≠ w1.heap.size := fun x hx => Nat.ne_of_lt hx
    have hmb : w.heap.size + 1 < w1.heap.size := r.lt
    replace p := (p.alloc (.cells (vfn fun _ => 0) 31)).rowOther (hne _ p.lt) (vfn f)
    replace r := (r.alloc (.cells (vfn fun _ => 0) 31)).rowOther (hne _ r.lt) (vfn f)
    replace hB := Below.setRow (hB.alloc hB.size (.cells (vfn fun _ => 0) 31)) (g := w1.heap.size) hB.size (vfn f)
    clear hne
    generalize (w1.alloc (.cells (vfn fun _ => 0) 31)).setRow w1.heap.size (vfn f) = w2 at *
    generalize w1.heap.size = mb at *
    simp only [Act.put]
    go_loopg [] 45 (fun k_ wr => ∃ (k : Nat) (h : Nat → Int), k = k_ ∧ Hid (low 3 k h) ∧ Hid (upb 3 h) ∧ Hid (shft 3 k h = F) ∧ blk wr w.heap.size (vfn f) 31 ∧ blk wr (w.heap.size + 1) (vfn fun _ => 0) 31 ∧ blk wr mb (vfn h) 31 ∧ Below w.heap.size w wr)
    case atStart => exact ⟨45, f, rfl, HL, HU, HF, p, r, u, hB⟩
    case round =>
      clear p r u hB HL HU
      obtain ⟨k, h, hk_, hlow, hupb, hF, p, r, u, hB⟩ := hrel
      have S0 := Lib.hid (fun w => smC_any (h 0) w)
      have S1 := Lib.hid (fun w => smC_any (h 1) w)
      have S2 := Lib.hid (fun w => smC_any (h 2) w)
      obtain ⟨bs, hs⟩ : ∃ b, sml 3 h = b := ⟨_, rfl⟩
      have HS := Lib.hid hs
      obtain ⟨b0, h0⟩ : ∃ b, sm (h 0) = b := ⟨_, rfl⟩
      obtain ⟨b1, h1⟩ : ∃ b, sm (h 1) = b := ⟨_, rfl⟩
      obtain ⟨b2, h2⟩ : ∃ b, sm (h 2) = b := ⟨_, rfl⟩
      have hbs : bs = (b0 && (b1 && (b2 && true))) := by rw [← hs, ← h0, ← h1, ← h2]; rfl
      rw [h0] at S0
      rw [h1] at S1
      rw [h2] at S2
      clear h0 h1 h2 hs
      cases bs
      · have e : Hid (h = F) := (shft_big HS.out).symm.trans hF.out
        obtain rfl : h = F := e.out
        have HN := Lib.hid (fun b w t p => hyp3_any h b w t (fun i hi => upb_I hupb.out i hi) p)
        have UF := Lib.hid (unit_fit hupb.out HS.out)
        have HX2 : Hid (X = fun i => ratioV (h i) 1073741824 (fitV (n3 h))) := by show _ = _; rw [← HX.out]; unfold vuX; rw [HF.out]
        generalize fitV (n3 h) = N at *
        generalize fitE (n3 h) = E at *
        have h3 : b0 = false ∨ (b0 = true ∧ b1 = false) ∨ (b0 = true ∧ b1 = true ∧ b2 = false) := by cases b0 <;> cases b1 <;> cases b2 <;> first | exact .inl rfl | exact .inr (.inl ⟨rfl, rfl⟩) | exact .inr (.inr ⟨rfl, rfl, rfl⟩) | cases hbs
        clear hbs
        rcases h3 with rfl | ⟨rfl, rfl⟩ | ⟨rfl, rfl, rfl⟩
        all_goals
          go_upto_region 12 with (first | (refine wpList_load_rowG ?hw _ _ rfl _ rfl _ _ _ _ p Try.underlying31 rfl ?hi ?_; (case hw => (first | rfl | (simp [Region.wanted, yielded]; done))); (case hi => (rw [vfn_size]; kernel_rfl))) | (go_at_call 78; with_reducible refine (V.out _).mono ?_; rintro e w1 ⟨rfl, hb⟩; replace hB := hB.trans (hb.mono hB.size); replace p := p.below hb p.lt; replace r := r.below hb r.lt; replace u := u.below hb u.lt; clear hb; have a0 : w1.cell? ⟨mb, 0, none⟩ = some (.int .i64 (h 0)) := u.cellIs (vfn_get _ (by omega)); have a1 : w1.cell? ⟨mb, 1, none⟩ = some (.int .i64 (h 1)) := u.cellIs (vfn_get _ (by omega)); have a2 : w1.cell? ⟨mb, 2, none⟩ = some (.int .i64 (h 2)) := u.cellIs (vfn_get _ (by omega))) | (go_at_call 79; with_reducible refine (S0.out _).mono ?_; rintro e wq ⟨rfl, rfl⟩) | (go_at_call 79; with_reducible refine (S1.out _).mono ?_; rintro e wq ⟨rfl, rfl⟩) | (go_at_call 79; with_reducible refine (S2.out _).mono ?_; rintro e wq ⟨rfl, rfl⟩) | (go_at_call 80; refine (HN.out _ _ _ u).mono ?_; rintro e w3 ⟨rfl, rfl⟩))
          have n1 := blk.new w1 #[.int .i64 N] 2
          replace p := p.alloc (.cells #[.int .i64 N] 2)
          replace r := r.alloc (.cells #[.int .i64 N] 2)
          replace u := u.alloc (.cells #[.int .i64 N] 2)
          replace hB := hB.alloc hB.size (.cells #[.int .i64 N] 2)
          generalize w1.alloc (.cells #[.int .i64 N] 2) = w4 at *
          generalize w1.heap.size = nb at *
          go_wp2_with (first | (refine wpList_load_rowG ?hw _ _ rfl _ rfl _ _ _ _ p Try.underlying31 rfl ?hi ?_; (case hw => (first | rfl | (simp [Region.wanted, yielded]; done))); (case hi => (rw [vfn_size]; kernel_rfl))) | (go_at_call 78; with_reducible refine (V.out _).mono ?_; rintro e w1 ⟨rfl, hb⟩; replace hB := hB.trans (hb.mono hB.size); replace p := p.below hb p.lt; replace r := r.below hb r.lt; replace u := u.below hb u.lt; replace n1 := n1.below hb n1.lt; clear hb) | (go_at_call 81; refine (eachUnit_any (fun i => ratioV (h i) 1073741824 N) (fun i => ratioE (h i) 1073741824 N) _ _ _ (fun i hi wx hx => vunitC_any h N _ _ _ wx hupb.out UF.out.1 (u.below hx u.lt) (n1.below hx n1.lt) i hi)).mono ?_; rintro e w5 ⟨rfl, hb⟩; rw [(each_good UF.out.2).1, (each_good UF.out.2).2, ← HX2.out]; replace hB := hB.trans (hb.mono hB.size); replace r := r.below hb r.lt; clear hb) | (refine wpList_store_row rfl _ _ _ rfl _ rfl _ rfl _ _ r (by rw [vfn_size]; kernel_rfl) (by simp only [vfn_size]) (vfn_one _) ?_))
          refine bodyPost_ret (results_vec rfl _ _ _ _ _ _ _ rfl (r.row (vfn X)) Try.underlying31 rfl (by rw [vfn_size]; kernel_rfl)) rfl ?_; refine ⟨?_, Below.setRow hB (by omega) _⟩
          rfl
      · obtain ⟨rfl, rfl, rfl⟩ : b0 = true ∧ b1 = true ∧ b2 = true := by cases b0 <;> cases b1 <;> cases b2 <;> first | exact ⟨rfl, rfl, rfl⟩ | cases hbs
        clear hbs
        obtain ⟨m, rfl⟩ : ∃ m, k = m + 1 := by
          cases k with
          | zero => have := low_zero hlow.out; rw [HS.out] at this; cases this
          | succ m => exact ⟨m, rfl⟩
        go_wp2_with (first | (refine wpList_load_rowG ?hw _ _ rfl _ rfl _ _ _ _ p Try.underlying31 rfl ?hi ?_; (case hw => (first | rfl | (simp [Region.wanted, yielded]; done))); (case hi => (rw [vfn_size]; kernel_rfl))) | (go_at_call 78; with_reducible refine (V.out _).mono ?_; rintro e w1 ⟨rfl, hb⟩; replace hB := hB.trans (hb.mono hB.size); replace p := p.below hb p.lt; replace r := r.below hb r.lt; replace u := u.below hb u.lt; clear hb; have a0 : w1.cell? ⟨mb, 0, none⟩ = some (.int .i64 (h 0)) := u.cellIs (vfn_get _ (by omega)); have a1 : w1.cell? ⟨mb, 1, none⟩ = some (.int .i64 (h 1)) := u.cellIs (vfn_get _ (by omega)); have a2 : w1.cell? ⟨mb, 2, none⟩ = some (.int .i64 (h 2)) := u.cellIs (vfn_get _ (by omega))) | (go_at_call 79; with_reducible refine (S0.out _).mono ?_; rintro e wq ⟨rfl, rfl⟩) | (go_at_call 79; with_reducible refine (S1.out _).mono ?_; rintro e wq ⟨rfl, rfl⟩) | (go_at_call 79; with_reducible refine (S2.out _).mono ?_; rintro e wq ⟨rfl, rfl⟩))
        clear a0 a1 a2
        go_loopg [38] 3 (fun g3 iv wi => ∃ j : Nat, g3 + j = 3 ∧ iv = .int .i64 j ∧ blk wi w.heap.size (vfn f) 31 ∧ blk wi (w.heap.size + 1) (vfn fun _ => 0) 31 ∧ blk wi mb (vfn (fun q => if q < j then 2 * h q else h q)) 31 ∧ Below w.heap.size w wi)
        case atStart => exact ⟨0, by omega, rfl, p, r, by rw [show vfn (fun q => if q < 0 then 2 * h q else h q) = vfn h from vfn_congr fun q _ => by simp]; exact u, hB⟩
        case round =>
          clear p r u hB
          obtain ⟨j, hj, rfl, p, r, u, hB⟩ := hrel
          by_cases hjn : j < 3
          · have hdk : decide ((j : Int) < 3) = true := decide_eq_true (by omega)
            have hdk' : decide (j < 3) = true := decide_eq_true hjn
            have hjn' : (j : Int) < 3 := by omega
            have hw3 : IntKind.i64.wrap ((j : Int) + 1) = ((j + 1 : Nat) : Int) := by rw [IntKind.wrap_i64]; omega
            have hw2 : IntKind.i64.wrap (h j * 2) = 2 * h j := by have := hupb.out j hjn; rw [IntKind.wrap_i64]; omega
            have ck : wr.cell? ⟨mb, j, none⟩ = some (.int .i64 (h j)) := (u.cellIs (vfn_get _ hjn)).trans (by simp)
            have fz : wr.frozen? ⟨mb, j, none⟩ = false := u.free _
            go_wp2_with (fail)
            go_roundg (3 - (j + 1))
            case rel =>
              refine ⟨j + 1, by omega, rfl, p.setOther (by simp; omega) _, r.setOther (by simp; omega) _, u.set' (vfn_set hjn (by simp) (fun q hq hne => ?_)), hB.setCell (by simp; omega) _⟩
              have : (q < j + 1) = (q < j) := propext (by omega)
              simp only [this]
            case measure => omega
          · obtain rfl : j = 3 := by omega
            have e4 : vfn (fun q => if q < 3 then 2 * h q else h q) = vfn (dbl h) := vfn_congr fun q hq => by simp [hq, dbl]
            rw [e4] at u
            go_wp2_with (fail)
            go_roundg m
            case rel => exact ⟨m, dbl h, rfl, low_step hlow.out, upb_step HS.out, (shft_step HS.out).symm.trans hF.out, p, r, u, hB⟩
            case measure => omega
end Go.Proofs.Ytkmelddejdikgaa
namespace Go.Proofs.Ytkmelddejdikgaa
open Go.RowKit PM Dt
def ptc (b : Nat) : Array Value := #[.pointer (some ⟨b, 0, none⟩)]
set_option maxRecDepth 100000 in
set_option maxHeartbeats 2000000 in
theorem rest1_any (X : SSt) (b q : Nat) (a : Bool) (w : World) (hg : blk w b (ssc X) 205) (hq : blk w q (ptc b) 91) : Calls Try.prog 143 #[.bool a, .pointer (some ⟨q, 0, none⟩)] w fun e w' => e = .returned (.agg (vfn fun _ => 0)) ∧ Below w.heap.size (w.setRow b (ssc ⟨X.D, fun _ => 0, X.P, X.g⟩)) w' := by
  have gl := hg.lt
  have ql := hq.lt
  have ne_q_g : q ≠ b := fun h => by
    subst h
    have h1 := hg.cellIs (i := 0) (v := .int .i64 (X.D 0)) rfl
    have h2 := hq.cellIs (i := 0) (v := .pointer (some ⟨q, 0, none⟩)) rfl
    rw [h1] at h2; cases h2
  go_enter Try.func143, Try.ntmps143
  go_upto_region 1 with (fail)
  simp only [zero_vec]
  have r : blk (w.alloc (.cells (vfn fun _ => 0) 31)) w.heap.size (vfn fun _ => 0) 31 := blk.new _ _ _
  have hB : Below w.heap.size w (w.alloc (.cells (vfn fun _ => 0) 31)) := by go_grown
  generalize (w.alloc (.cells (vfn fun _ => 0) 31)) = w0 at *
  have g : blk w0 b (ssc X) 205 := hg.below hB hg.lt
  have qb : blk w0 q (ptc b) 91 := hq.below hB hq.lt
  have ne_r_g : w.heap.size ≠ b := by omega
  have ne_r_qb : w.heap.size ≠ q := by omega
  have ne_qb_g : q ≠ b := ne_q_g
  clear hq
  replace hB : Save b b w w0 := Save.of hB
  have lt_r := r.lt
  have lt_g := g.lt
  have lt_qb := qb.lt
  have hW0 : w.heap.size ≤ w0.heap.size := by simpa using hB.size
  apply wp_region_Q 6 [0, 1, 3, 7, 15, 31] [] [_, _, _, _, _, (fun _ => undef)] (fun p L w' => w0.heap.size ≤ w'.heap.size ∧ Save b b w w' ∧ blk w' w.heap.size (vfn fun _ => 0) 31 ∧ blk w' b (bif L 5 then (ssc ⟨X.D, fun _ => 0, X.P, X.g⟩) else (ssc X)) 205 ∧ blk w' q (ptc b) 91) _ [(0, 4), (1, 5), (2, 6), (3, 7), (4, 8)] [0, 1, 2, 3, 4, 5]
  case hn => rfl
  case hB => kernel_rfl
  case hds => kernel_rfl
  case hA => (intro p; simp only [putsD, Act.put, sIT, sCZ, sCS, gCZ, gCS]; exact rfl)
  case h0 => exact fun p => ⟨Nat.le_refl _, hB, r, g, qb⟩
  case hmore => exact fun p L w1 w2 ⟨hsz, hB, r, g, qb⟩ hm => ⟨Nat.le_trans hsz hm.size, hB.trans (hm.mono (Nat.le_trans hW0 hsz)), r.below hm r.lt, g.below hm g.lt, qb.below hm qb.lt⟩
  case hs =>
    intro more
    refine stepV 0 rfl rfl (fun _ _ _ h => h) ?_ ?_
    · rintro p L w1 ⟨hsz, hB, r, g, qb⟩ hk
      have L5 : L 5 = false := hk.2.2 5 rfl
      have hc : w1.cell? ⟨q, 0, none⟩ = some (.pointer (some ⟨b, 0, none⟩)) := qb.cellIs rfl
      go_simp
      exact ⟨rfl, rfl⟩
    refine stepV 1 rfl rfl (fun _ _ _ h => h) ?_ ?_
    · intros; (try simp only [vfn, qfn]); go_simp; exact ⟨rfl, rfl⟩
    iterate 3 (refine stepV _ rfl rfl (fun _ _ _ h => h) (by intros; go_simp; exact ⟨rfl, rfl⟩) ?_)
    refine AllI.cons ?_ ?_
    · refine stepI_store 5 rfl (fun p => rfl) (fun p => rfl) _ _ _ rfl (fun _ => b) 3 (fun p => rfl) (fun p => (vfn (fun _ => 0))) (fun p => (congrArg Value.agg zero_vec)) (fun p => (ssc X)) (fun p => (ssc ⟨X.D, fun _ => 0, X.P, X.g⟩)) 205 (fun p => over_sa _ _ _ _ _) (fun p => by first | (rw [vfn_size, ssc_size]; decide) | simp [vfn_size, ssc_size]) (fun p => by rw [vfn_size]; kernel_rfl) (fun p => vfn_one _) ?_ ?_
      · rintro p L w1 ⟨hsz, hB, r, g, qb⟩ hk
        have L5 : L 5 = false := hk.1
        rw [L5] at g
        try simp only [cond_true, cond_false] at g
        exact g
      · rintro p L w1 ⟨hsz, hB, r, g, qb⟩ hk
        have L5 : L 5 = false := hk.1
        skip
        refine ⟨(by simpa using hsz), hB.row (by first | exact .inr (Nat.le_trans hW0 hp.1) | exact .inr ge_g | exact .inl ⟨Nat.le_refl _, Nat.le_refl _⟩ | omega | (have := hB.size; simp at this ⊢; omega)) _, r.rowOther ne_r_g _, ?_, qb.rowOther ne_qb_g _⟩
        rw [show upL L 5 5 = true from rfl]
        exact g.row _
    exact AllI.nil
  case hV0 => exact fun p q => AllI.nil
  case he =>
  clear hB r g qb
  rintro p w0r ⟨hsz, hB, r, g, qb⟩
  replace g : blk w0r b (ssc ⟨X.D, fun _ => 0, X.P, X.g⟩) 205 := g
  clear lt_r lt_g lt_qb hsz hW0
  go_upto_region 2 with (fail)
  have lt_r := r.lt
  have lt_g := g.lt
  have lt_qb := qb.lt
  have hW0 : w.heap.size ≤ w0r.heap.size := by simpa using hB.size
  apply wp_region_Q 6 [0, 1, 3, 7, 15, 31] [] [_, _, _, _, _, (fun _ => undef)] (fun p L w' => w0r.heap.size ≤ w'.heap.size ∧ Save b b w w' ∧ blk w' w.heap.size (bif L 5 then (vfn (fun _ => 0)) else (vfn fun _ => 0)) 31 ∧ blk w' b (ssc ⟨X.D, fun _ => 0, X.P, X.g⟩) 205 ∧ blk w' q (ptc b) 91) _ [(0, 9), (1, 10), (2, 11), (3, 12), (4, 13)] [0, 1, 2, 3, 4, 5]
  case hn => rfl
  case hB => kernel_rfl
  case hds => kernel_rfl
  case hA => (intro p; simp only [putsD, Act.put, sIT, sCZ, sCS, gCZ, gCS]; exact rfl)
  case h0 => exact fun p => ⟨Nat.le_refl _, hB, r, g, qb⟩
  case hmore => exact fun p L w1 w2 ⟨hsz, hB, r, g, qb⟩ hm => ⟨Nat.le_trans hsz hm.size, hB.trans (hm.mono (Nat.le_trans hW0 hsz)), r.below hm r.lt, g.below hm g.lt, qb.below hm qb.lt⟩
  case hs =>
    intro more
    refine stepV 0 rfl rfl (fun _ _ _ h => h) ?_ ?_
    · rintro p L w1 ⟨hsz, hB, r, g, qb⟩ hk
      have L5 : L 5 = false := hk.2.2 5 rfl
      have hc : w1.cell? ⟨q, 0, none⟩ = some (.pointer (some ⟨b, 0, none⟩)) := qb.cellIs rfl
      go_simp
      exact ⟨rfl, rfl⟩
    iterate 3 (refine stepV _ rfl rfl (fun _ _ _ h => h) (by intros; go_simp; exact ⟨rfl, rfl⟩) ?_)
    refine stepV 4 rfl rfl (fun _ _ _ h => h) ?_ ?_
    · rintro p L w1 ⟨hsz, hB, r, g, qb⟩ hk
      have L5 : L 5 = false := hk.2.2 5 rfl
      exact valR_part _ _ rfl _ 3 rfl _ _ g (vfn (fun _ => 0)) (st_a ⟨X.D, fun _ => 0, X.P, X.g⟩) _ Try.underlying31 rfl (by rw [vfn_size]; kernel_rfl) rfl
    refine AllI.cons ?_ ?_
    · refine stepI_store 5 rfl (fun p => rfl) (fun p => rfl) _ _ _ rfl (fun _ => w.heap.size) 0 (fun p => rfl) (fun p => (vfn (fun _ => 0))) (fun p => rfl) (fun p => (vfn fun _ => 0)) (fun p => (vfn (fun _ => 0))) 31 (fun p => over_v _ _) (fun p => by first | (rw [vfn_size, vfn_size]; decide) | simp [vfn_size, vfn_size]) (fun p => by rw [vfn_size]; kernel_rfl) (fun p => vfn_one _) ?_ ?_
      · rintro p L w1 ⟨hsz, hB, r, g, qb⟩ hk
        have L5 : L 5 = false := hk.1
        rw [L5] at r
        try simp only [cond_true, cond_false] at r
        exact r
      · rintro p L w1 ⟨hsz, hB, r, g, qb⟩ hk
        have L5 : L 5 = false := hk.1
        skip
        refine ⟨(by simpa using hsz), hB.row (by first | exact .inr (Nat.le_trans hW0 hp.1) | exact .inr ge_r | exact .inl ⟨Nat.le_refl _, Nat.le_refl _⟩ | omega | (have := hB.size; simp at this ⊢; omega)) _, ?_, g.rowOther (Ne.symm ne_r_g) _, qb.rowOther (Ne.symm ne_r_qb) _⟩
        rw [show upL L 5 5 = true from rfl]
        exact r.row _
    exact AllI.nil
  case hV0 => exact fun p q => AllI.nil
  case he =>
  clear hB r g qb
  rintro p w0rr ⟨hsz, hB, r, g, qb⟩
  replace r : blk w0rr w.heap.size (vfn (fun _ => 0)) 31 := r
  clear lt_r lt_g lt_qb hsz hW0
  go_wp2_with (fail)
  refine bodyPost_ret (results_cell_row rfl _ _ _ _ _ _ _ rfl r Try.underlying31 rfl (by first | kernel_rfl | (rw [vfn_size]; kernel_rfl))) rfl ?_
  exact ⟨rfl, hB.toRow hg g⟩
def acrX (s : Nat → Int) : Nat → Int := fun i => if i = 0 then -s 1 else if i = 1 then s 0 else 0
def acrN (s : Nat → Int) : Bool := decide ([-s 0, s 1, -s 1].foldl mx (s 0) < 16777216)
def acrF (s : Nat → Int) : Nat → Int := if acrN s then of3 1073741824 0 0 else vunF (acrX s)
set_option maxRecDepth 100000 in
set_option maxHeartbeats 4000000 in
theorem across_n (S : Nat → Int) (w : World) (hS : ∀ i, i < 3 → -4294967296 ≤ S i ∧ S i ≤ 4294967296) (hn : acrN S = true) : Calls Try.prog 145 #[.agg (vfn S)] w fun e w' => e = .returned (.agg (vfn (of3 1073741824 0 0))) ∧ Below w.heap.size w w' := by
  have b0 := hS 0 (by omega)
  have b1 := hS 1 (by omega)
  have n0 : IntKind.i64.wrap (-S 0) = -S 0 := by rw [IntKind.wrap_i64]; omega
  have n1 : IntKind.i64.wrap (-S 1) = -S 1 := by rw [IntKind.wrap_i64]; omega
  have hM : Hid ([-S 0, S 1, -S 1].foldl mx (S 0) = [-S 0, S 1, -S 1].foldl mx (S 0)) := Lib.hid rfl
  unfold acrN at hn
  generalize h1 : [-S 0, S 1, -S 1].foldl mx (S 0) = M1 at *
  replace hM := Lib.hid h1
  clear h1 b0 b1 hS
  go_enter Try.func145, Try.ntmps145
  go_upto_region 1 with (fail)
  simp only [zero_vec]
  have v : blk ((w.alloc (.cells (vfn S) 31)).alloc (.cells (vfn fun _ => 0) 31)) w.heap.size (vfn S) 31 := (blk.new _ _ _).alloc _
  have r : blk ((w.alloc (.cells (vfn S) 31)).alloc (.cells (vfn fun _ => 0) 31)) (w.heap.size + 1) (vfn fun _ => 0) 31 := blk.new' (by simp)
  have hB : Below w.heap.size w ((w.alloc (.cells (vfn S) 31)).alloc (.cells (vfn fun _ => 0) 31)) := by go_grown
  generalize ((w.alloc (.cells (vfn S) 31)).alloc (.cells (vfn fun _ => 0) 31)) = w0 at *
  have lt_v := v.lt
  have lt_r := r.lt
  have hW0 : w.heap.size ≤ w0.heap.size := by simpa using hB.size
  apply wp_region_I 6 [0, 1, 0, 4, 3, 31] [] [_, _, _, _, _, _] (fun p L w' => w0.heap.size ≤ w'.heap.size ∧ Below w.heap.size w w' ∧ blk w' w.heap.size (vfn S) 31 ∧ blk w' (w.heap.size + 1) (vfn fun _ => 0) 31) _ [(0, 7), (1, 8), (2, 9), (3, 10), (4, 3), (5, 4)] [0, 1, 2, 3, 4, 5]
  case hn => rfl
  case hm => kernel_rfl
  case hB => kernel_rfl
  case hds => kernel_rfl
  case hA => (intro p; simp only [putsD, Act.put, sIT, sCZ, sCS, gCZ, gCS]; exact rfl)
  case h0 => exact fun p => ⟨Nat.le_refl _, hB.drew, v.drew, r.drew⟩
  case hmore => exact fun p L w1 w2 ⟨hsz, hB, v, r⟩ hm => ⟨Nat.le_trans hsz hm.size, hB.trans (hm.mono (Nat.le_trans hW0 hsz)), v.below hm v.lt, r.below hm r.lt⟩
  case hs =>
    intro more
    refine stepV _ rfl rfl (fun _ _ _ h => h) (by intros; go_simp; exact ⟨rfl, rfl⟩) ?_
    refine stepV 1 rfl rfl (fun _ _ _ h => h) ?_ ?_
    · rintro p L w1 ⟨hsz, hB, v, r⟩ hk
      have hc : w1.cell? ⟨w.heap.size, 0, none⟩ = some (.int .i64 (S 0)) := v.cellIs (vfn_get _ (by omega))
      go_simp
      exact ⟨rfl, rfl⟩
    refine stepV _ rfl rfl (fun _ _ _ h => h) (by intros; go_simp; exact ⟨rfl, rfl⟩) ?_
    refine stepV 3 rfl rfl (fun _ _ _ h => h) ?_ ?_
    · rintro p L w1 ⟨hsz, hB, v, r⟩ hk
      have hc : w1.cell? ⟨w.heap.size, 1, none⟩ = some (.int .i64 (S 1)) := v.cellIs (vfn_get _ (by omega))
      go_simp
      exact ⟨rfl, rfl⟩
    iterate 2 (refine stepV _ rfl rfl (fun _ _ _ h => h) (by intros; go_simp; exact ⟨rfl, rfl⟩) ?_)
    exact AllI.nil
  case hV0 => exact fun p q => AllI.nil
  case he =>
  clear hB v r
  rintro p w0r ⟨hsz, hB, v, r⟩
  clear lt_v lt_r hsz hW0
  go_upto_region 3 with (first
    | (refine wpList_max rfl rfl _ _ _ hM.out rfl ?_))
  have lt_v := v.lt
  have lt_r := r.lt
  have hW0 : w.heap.size ≤ w0r.heap.size := by simpa using hB.size
  apply wp_region_Q 2 [0, 1] [] [_, (fun _ => undef)] (fun p L w' => w0r.heap.size ≤ w'.heap.size ∧ Below w.heap.size w w' ∧ blk w' w.heap.size (vfn S) 31 ∧ blk w' (w.heap.size + 1) (bif L 1 then (vfn (of3 1073741824 0 0)) else (vfn fun _ => 0)) 31) _ [(0, 19)] [0, 1]
  case hn => rfl
  case hB => kernel_rfl
  case hds => kernel_rfl
  case hA => (intro p; simp only [putsD, Act.put, sIT, sCZ, sCS, gCZ, gCS]; exact rfl)
  case h0 => exact fun p => ⟨Nat.le_refl _, hB, v, r⟩
  case hmore => exact fun p L w1 w2 ⟨hsz, hB, v, r⟩ hm => ⟨Nat.le_trans hsz hm.size, hB.trans (hm.mono (Nat.le_trans hW0 hsz)), v.below hm v.lt, r.below hm r.lt⟩
  case hs =>
    intro more
    refine stepV 0 rfl rfl (fun _ _ _ h => h) ?_ ?_
    · intros; (try simp only [vfn, qfn]); go_simp; exact ⟨rfl, rfl⟩
    refine AllI.cons ?_ ?_
    · refine stepI_store 1 rfl (fun p => rfl) (fun p => rfl) _ _ _ rfl (fun _ => (w.heap.size + 1)) 0 (fun p => rfl) (fun p => (vfn (of3 1073741824 0 0))) (fun p => (congrArg Value.agg (of3_cells 1073741824 0 0))) (fun p => (vfn fun _ => 0)) (fun p => (vfn (of3 1073741824 0 0))) 31 (fun p => over_v _ _) (fun p => by first | (rw [vfn_size, vfn_size]; decide) | simp [vfn_size, vfn_size]) (fun p => by rw [vfn_size]; kernel_rfl) (fun p => vfn_one _) ?_ ?_
      · rintro p L w1 ⟨hsz, hB, v, r⟩ hk
        have L1 : L 1 = false := hk.1
        rw [L1] at r
        try simp only [cond_true, cond_false] at r
        exact r
      · rintro p L w1 ⟨hsz, hB, v, r⟩ hk
        have L1 : L 1 = false := hk.1
        skip
        refine ⟨(by simpa using hsz), Below.setRow hB (by first | exact Nat.le_trans hW0 hp.1 | exact ge_r | omega | (have := hB.size; simp at this ⊢; omega)) _, v.rowOther (by first | exact ne_v_r | exact Ne.symm ne_r_v | omega) _, ?_⟩
        rw [show upL L 1 1 = true from rfl]
        exact r.row _
    exact AllI.nil
  case hV0 => exact fun p q => AllI.nil
  case he =>
  clear hB v r
  rintro p w0rr ⟨hsz, hB, v, r⟩
  replace r : blk w0rr (w.heap.size + 1) (vfn (of3 1073741824 0 0)) 31 := r
  clear lt_v lt_r hsz hW0
  go_wp2_with (fail)
  refine bodyPost_ret (results_cell_row rfl _ _ _ _ _ _ _ rfl r Try.underlying31 rfl (by first | kernel_rfl | (rw [vfn_size]; kernel_rfl))) rfl ?_
  refine ⟨?_, hB⟩
  rfl
set_option maxRecDepth 100000 in
set_option maxHeartbeats 4000000 in
theorem across_f (S : Nat → Int) (w : World) (hS : ∀ i, i < 3 → -4294967296 ≤ S i ∧ S i ≤ 4294967296) (hn : acrN S = false) : Calls Try.prog 145 #[.agg (vfn S)] w fun e w' => e = .returned (.agg (vfn (vunF (acrX S)))) ∧ Below w.heap.size w w' := by
  have b0 := hS 0 (by omega)
  have b1 := hS 1 (by omega)
  have n0 : IntKind.i64.wrap (-S 0) = -S 0 := by rw [IntKind.wrap_i64]; omega
  have n1 : IntKind.i64.wrap (-S 1) = -S 1 := by rw [IntKind.wrap_i64]; omega
  have hM : Hid ([-S 0, S 1, -S 1].foldl mx (S 0) = [-S 0, S 1, -S 1].foldl mx (S 0)) := Lib.hid rfl
  unfold acrN at hn
  generalize h1 : [-S 0, S 1, -S 1].foldl mx (S 0) = M1 at *
  replace hM := Lib.hid h1
  clear h1
  have VU := Lib.hid (fun w => vunit_any (acrX S) w (fun i hi => by rcases (show i = 0 ∨ i = 1 ∨ i = 2 by omega) with rfl | rfl | rfl <;> simp only [acrX] <;> exact ⟨by first | omega | (simp; done) | (simp; omega), by first | omega | (simp; done) | (simp; omega)⟩))
  clear b0 b1 hS
  go_enter Try.func145, Try.ntmps145
  go_upto_region 1 with (fail)
  simp only [zero_vec]
  have v : blk ((w.alloc (.cells (vfn S) 31)).alloc (.cells (vfn fun _ => 0) 31)) w.heap.size (vfn S) 31 := (blk.new _ _ _).alloc _
  have r : blk ((w.alloc (.cells (vfn S) 31)).alloc (.cells (vfn fun _ => 0) 31)) (w.heap.size + 1) (vfn fun _ => 0) 31 := blk.new' (by simp)
  have hB : Below w.heap.size w ((w.alloc (.cells (vfn S) 31)).alloc (.cells (vfn fun _ => 0) 31)) := by go_grown
  generalize ((w.alloc (.cells (vfn S) 31)).alloc (.cells (vfn fun _ => 0) 31)) = w0 at *
  have lt_v := v.lt
  have lt_r := r.lt
  have hW0 : w.heap.size ≤ w0.heap.size := by simpa using hB.size
  apply wp_region_I 6 [0, 1, 0, 4, 3, 31] [] [_, _, _, _, _, _] (fun p L w' => w0.heap.size ≤ w'.heap.size ∧ Below w.heap.size w w' ∧ blk w' w.heap.size (vfn S) 31 ∧ blk w' (w.heap.size + 1) (vfn fun _ => 0) 31) _ [(0, 7), (1, 8), (2, 9), (3, 10), (4, 3), (5, 4)] [0, 1, 2, 3, 4, 5]
  case hn => rfl
  case hm => kernel_rfl
  case hB => kernel_rfl
  case hds => kernel_rfl
  case hA => (intro p; simp only [putsD, Act.put, sIT, sCZ, sCS, gCZ, gCS]; exact rfl)
  case h0 => exact fun p => ⟨Nat.le_refl _, hB.drew, v.drew, r.drew⟩
  case hmore => exact fun p L w1 w2 ⟨hsz, hB, v, r⟩ hm => ⟨Nat.le_trans hsz hm.size, hB.trans (hm.mono (Nat.le_trans hW0 hsz)), v.below hm v.lt, r.below hm r.lt⟩
  case hs =>
    intro more
    refine stepV _ rfl rfl (fun _ _ _ h => h) (by intros; go_simp; exact ⟨rfl, rfl⟩) ?_
    refine stepV 1 rfl rfl (fun _ _ _ h => h) ?_ ?_
    · rintro p L w1 ⟨hsz, hB, v, r⟩ hk
      have hc : w1.cell? ⟨w.heap.size, 0, none⟩ = some (.int .i64 (S 0)) := v.cellIs (vfn_get _ (by omega))
      go_simp
      exact ⟨rfl, rfl⟩
    refine stepV _ rfl rfl (fun _ _ _ h => h) (by intros; go_simp; exact ⟨rfl, rfl⟩) ?_
    refine stepV 3 rfl rfl (fun _ _ _ h => h) ?_ ?_
    · rintro p L w1 ⟨hsz, hB, v, r⟩ hk
      have hc : w1.cell? ⟨w.heap.size, 1, none⟩ = some (.int .i64 (S 1)) := v.cellIs (vfn_get _ (by omega))
      go_simp
      exact ⟨rfl, rfl⟩
    iterate 2 (refine stepV _ rfl rfl (fun _ _ _ h => h) (by intros; go_simp; exact ⟨rfl, rfl⟩) ?_)
    exact AllI.nil
  case hV0 => exact fun p q => AllI.nil
  case he =>
  clear hB v r
  rintro p w0r ⟨hsz, hB, v, r⟩
  clear lt_v lt_r hsz hW0
  go_upto_region 4 with (first
    | (refine wpList_max rfl rfl _ _ _ hM.out rfl ?_))
  have lt_v := v.lt
  have lt_r := r.lt
  have hW0 : w.heap.size ≤ w0r.heap.size := by simpa using hB.size
  apply wp_region_Q 13 [0, 1, 3, 7, 15, 31, 63, 127, 255, 511, 1023, 2047, 4095] [10] [_, _, _, _, _, _, _, _, _, _, (fun p => .pointer (some ⟨p 10, 0, none⟩)), (fun _ => undef), _] (fun p L w' => w0r.heap.size ≤ w'.heap.size ∧ Below w.heap.size w w' ∧ blk w' w.heap.size (vfn S) 31 ∧ blk w' (w.heap.size + 1) (vfn fun _ => 0) 31 ∧ (L 10 = true → w0r.heap.size ≤ p 10 ∧ blk w' (p 10) (bif L 11 then (vfn (vunF (acrX S))) else (vfn fun _ => 0)) 31)) _ [(0, 21), (1, 22), (2, 23), (3, 24), (4, 25), (5, 26), (6, 27), (7, 20), (8, 28), (9, 29), (10, 5), (12, 6)] [0, 1, 2, 3, 4, 5, 6, 7, 8, 9, 10, 11, 12]
  case hn => rfl
  case hB => kernel_rfl
  case hds => kernel_rfl
  case hA => (intro p; simp only [putsD, Act.put, sIT, sCZ, sCS, gCZ, gCS]; exact rfl)
  case h0 => exact fun p => ⟨Nat.le_refl _, hB, v, r, fun h => absurd h (by decide)⟩
  case hmore => exact fun p L w1 w2 ⟨hsz, hB, v, r, h_x⟩ hm => ⟨Nat.le_trans hsz hm.size, hB.trans (hm.mono (Nat.le_trans hW0 hsz)), v.below hm v.lt, r.below hm r.lt, fun hl => ⟨(h_x hl).1, (h_x hl).2.below hm (h_x hl).2.lt⟩⟩
  case hs =>
    intro more
    refine stepV _ rfl rfl (fun _ _ _ h => h) (by intros; go_simp; exact ⟨rfl, rfl⟩) ?_
    refine stepV 1 rfl rfl (fun _ _ _ h => h) ?_ ?_
    · rintro p L w1 ⟨hsz, hB, v, r, h_x⟩ hk
      have L11 : L 11 = false := hk.2.2 11 rfl
      have hc : w1.cell? ⟨w.heap.size, 1, none⟩ = some (.int .i64 (S 1)) := v.cellIs (vfn_get _ (by omega))
      go_simp
      exact ⟨rfl, rfl⟩
    iterate 2 (refine stepV _ rfl rfl (fun _ _ _ h => h) (by intros; go_simp; exact ⟨rfl, rfl⟩) ?_)
    refine stepV 4 rfl rfl (fun _ _ _ h => h) ?_ ?_
    · rintro p L w1 ⟨hsz, hB, v, r, h_x⟩ hk
      have L11 : L 11 = false := hk.2.2 11 rfl
      have hc : w1.cell? ⟨w.heap.size, 0, none⟩ = some (.int .i64 (S 0)) := v.cellIs (vfn_get _ (by omega))
      go_simp
      exact ⟨rfl, rfl⟩
    refine AllI.cons ?_ ?_
    · refine stepI_val 5 rfl (fun p => rfl) ?_ (fun _ _ _ h => h)
      intros; go_simp; exact ⟨congrArg Value.agg (vfn_of (acrX S)), rfl⟩
    refine stepD 6 rfl (fun p => rfl) (fun _ _ _ h => h) more ?_ ?_
    · rintro p L w1 ⟨hsz, hB, v, r, h_x⟩ hk
      go_simp
      refine (VU.out _).mono ?_
      rintro e w2 ⟨rfl, h2⟩
      first | exact ⟨rfl, h2⟩ | (subst h2; exact ⟨rfl, Below.refl _ _⟩)
    iterate 3 (refine stepV _ rfl rfl (fun _ _ _ h => h) (by intros; go_simp; exact ⟨rfl, rfl⟩) ?_)
    refine AllI.cons ?_ ?_
    · refine stepI_alloc 10 rfl (fun p => rfl) rfl (vfn fun _ => 0) 31 (fun p => rfl) ?_ ?_
      · intro p w1
        go_simp
        first | rfl | rw [zero_vec]
      rintro p L w1 ⟨hsz, hB, v, r, h_x⟩ hk
      have L11 : L 11 = false := hk.2.2 11 rfl
      refine ⟨Nat.le_trans hsz (by simp), hB.alloc (Nat.le_trans (by first | exact hW0 | (have := hB.size; simp at this ⊢; omega)) hsz) _, v.alloc _, r.alloc _, fun _ => ⟨hsz, ?_⟩⟩
      rw [show upL L 10 11 = false from L11]
      exact blk.new _ _ _
    refine AllI.cons ?_ ?_
    · refine stepI_store 11 rfl (fun p => rfl) (fun p => rfl) _ _ _ rfl (fun p => p 10) 0 (fun p => rfl) (fun p => (vfn (vunF (acrX S)))) (fun p => rfl) (fun p => (vfn fun _ => 0)) (fun p => (vfn (vunF (acrX S)))) 31 (fun p => over_v _ _) (fun p => by first | (rw [vfn_size, vfn_size]; decide) | simp [vfn_size, vfn_size]) (fun p => by rw [vfn_size]; kernel_rfl) (fun p => vfn_one _) ?_ ?_
      · rintro p L w1 ⟨hsz, hB, v, r, h_x⟩ hk
        have L11 : L 11 = false := hk.1
        have hh := (h_x (hk.2.1 10 rfl)).2
        rw [L11] at hh
        try simp only [cond_true, cond_false] at hh
        exact hh
      · rintro p L w1 ⟨hsz, hB, v, r, h_x⟩ hk
        have L11 : L 11 = false := hk.1
        skip
        have hp := h_x (hk.2.1 10 rfl)
        refine ⟨(by simpa using hsz), Below.setRow hB (by first | exact Nat.le_trans hW0 hp.1 | exact ge_x | omega | (have := hB.size; simp at this ⊢; omega)) _, v.rowOther (by first | exact Nat.ne_of_lt (Nat.lt_of_lt_of_le lt_v hp.1) | omega) _, r.rowOther (by first | exact Nat.ne_of_lt (Nat.lt_of_lt_of_le lt_r hp.1) | omega) _, fun _ => ⟨hp.1, ?_⟩⟩
        rw [show upL L 11 11 = true from rfl]
        exact hp.2.row _
    refine stepV _ rfl rfl (fun _ _ _ h => h) (by intros; go_simp; exact ⟨rfl, rfl⟩) ?_
    exact AllI.nil
  case hV0 =>
    intro p q
    refine AllI.cons ?_ ?_
    · skip
      iterate 13 (refine AllI.cons (by first | exact .inl rfl | (refine .inr ?_; simp only [gCZ, gCS]; done) | exact .inr rfl) ?_)
      exact AllI.nil
    exact AllI.nil
  case he =>
  clear hB v r
  rintro p w0rr ⟨hsz, hB, v, r, h_x⟩
  obtain ⟨le_x, x⟩ := h_x rfl
  clear h_x
  replace x : blk w0rr (p 10) (vfn (vunF (acrX S))) 31 := x
  have ne_v_x : w.heap.size ≠ p 10 := Nat.ne_of_lt (Nat.lt_of_lt_of_le lt_v le_x)
  have ne_r_x : (w.heap.size + 1) ≠ p 10 := Nat.ne_of_lt (Nat.lt_of_lt_of_le lt_r le_x)
  have ge_x : w.heap.size ≤ p 10 := Nat.le_trans hW0 le_x
  generalize p 10 = x_b at *
  clear lt_v lt_r hsz hW0
  go_upto_region 5 with (fail)
  have lt_v := v.lt
  have lt_r := r.lt
  have lt_x := x.lt
  have hW0 : w.heap.size ≤ w0rr.heap.size := by simpa using hB.size
  apply wp_region_Q 2 [0, 1] [] [_, (fun _ => undef)] (fun p L w' => w0rr.heap.size ≤ w'.heap.size ∧ Below w.heap.size w w' ∧ blk w' w.heap.size (vfn S) 31 ∧ blk w' (w.heap.size + 1) (bif L 1 then (vfn (vunF (acrX S))) else (vfn fun _ => 0)) 31 ∧ blk w' x_b (vfn (vunF (acrX S))) 31) _ [(0, 30)] [0, 1]
  case hn => rfl
  case hB => kernel_rfl
  case hds => kernel_rfl
  case hA => (intro p; simp only [putsD, Act.put, sIT, sCZ, sCS, gCZ, gCS]; exact rfl)
  case h0 => exact fun p => ⟨Nat.le_refl _, hB, v, r, x⟩
  case hmore => exact fun p L w1 w2 ⟨hsz, hB, v, r, x⟩ hm => ⟨Nat.le_trans hsz hm.size, hB.trans (hm.mono (Nat.le_trans hW0 hsz)), v.below hm v.lt, r.below hm r.lt, x.below hm x.lt⟩
  case hs =>
    intro more
    refine stepV 0 rfl rfl (fun _ _ _ h => h) ?_ ?_
    · rintro p L w1 ⟨hsz, hB, v, r, x⟩ hk
      have L1 : L 1 = false := hk.2.2 1 rfl
      first | exact valR_row _ _ rfl _ rfl _ _ x _ Try.underlying31 rfl (by first | kernel_rfl | (rw [vfn_size]; kernel_rfl)) rfl | (have hc := x.cellIs (vfn_get _ (show 0 < 3 by omega)); go_simp; exact ⟨rfl, rfl⟩)
    refine AllI.cons ?_ ?_
    · refine stepI_store 1 rfl (fun p => rfl) (fun p => rfl) _ _ _ rfl (fun _ => (w.heap.size + 1)) 0 (fun p => rfl) (fun p => (vfn (vunF (acrX S)))) (fun p => rfl) (fun p => (vfn fun _ => 0)) (fun p => (vfn (vunF (acrX S)))) 31 (fun p => over_v _ _) (fun p => by first | (rw [vfn_size, vfn_size]; decide) | simp [vfn_size, vfn_size]) (fun p => by rw [vfn_size]; kernel_rfl) (fun p => vfn_one _) ?_ ?_
      · rintro p L w1 ⟨hsz, hB, v, r, x⟩ hk
        have L1 : L 1 = false := hk.1
        rw [L1] at r
        try simp only [cond_true, cond_false] at r
        exact r
      · rintro p L w1 ⟨hsz, hB, v, r, x⟩ hk
        have L1 : L 1 = false := hk.1
        skip
        refine ⟨(by simpa using hsz), Below.setRow hB (by first | exact Nat.le_trans hW0 hp.1 | exact ge_r | omega | (have := hB.size; simp at this ⊢; omega)) _, v.rowOther (by first | exact ne_v_r | exact Ne.symm ne_r_v | omega) _, ?_, x.rowOther (Ne.symm ne_r_x) _⟩
        rw [show upL L 1 1 = true from rfl]
        exact r.row _
    exact AllI.nil
  case hV0 => exact fun p q => AllI.nil
  case he =>
  clear hB v r x
  rintro p w0rrr ⟨hsz, hB, v, r, x⟩
  replace r : blk w0rrr (w.heap.size + 1) (vfn (vunF (acrX S))) 31 := r
  clear lt_v lt_r lt_x hsz hW0
  go_wp2_with (fail)
  refine bodyPost_ret (results_cell_row rfl _ _ _ _ _ _ _ rfl r Try.underlying31 rfl (by first | kernel_rfl | (rw [vfn_size]; kernel_rfl))) rfl ?_
  refine ⟨?_, hB⟩
  rfl
theorem across_any (S : Nat → Int) (w : World) (hS : ∀ i, i < 3 → -4294967296 ≤ S i ∧ S i ≤ 4294967296) : Calls Try.prog 145 #[.agg (vfn S)] w fun e w' => e = .returned (.agg (vfn (acrF S))) ∧ Below w.heap.size w w' := by
  unfold acrF
  cases hn : acrN S with
  | true => exact across_n S w hS hn
  | false => exact across_f S w hS hn
end Go.Proofs.Ytkmelddejdikgaa
