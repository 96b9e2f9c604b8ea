/-
  Square roots by the specification's own numbers (package perigeeref01): Root. Square roots and norms by the specification's own numbers (package perigeeref01): Sqrt, Hypot.
-/
import Derived.Test.YtkmelddejdikgaaHyp
import Derived.Test.YtkmelddejdikgaaAlg
set_option linter.unusedSimpArgs false
set_option linter.unusedVariables false
namespace Go.Proofs.Ytkmelddejdikgaa
open Go.RowKit PM Dt
/-- What stands throughout Root. -/
def SR (w : World) (n l : Nat) (w' : World) : Prop := blk w' w.heap.size (bigC n) 176 ∧ blk w' (w.heap.size + 1) (bigC 0) 176 ∧ blk w' (w.heap.size + 1 + 1) (bigC l) 176 ∧ Below w.heap.size w w'
theorem SR.drew {w : World} {n l : Nat} {w' : World} (h : SR w n l w') : SR w n l w'.drew := ⟨h.1.drew, h.2.1.drew, h.2.2.1.drew, h.2.2.2.drew⟩
theorem SR.alloc {w : World} {n l : Nat} {w' : World} (h : SR w n l w') (o : Obj) : SR w n l (w'.alloc o) :=
  ⟨h.1.alloc _, h.2.1.alloc _, h.2.2.1.alloc _, h.2.2.2.alloc (by have := h.1.lt; omega) _⟩
theorem SR.below {w : World} {n l : Nat} {w' w2 : World} (h : SR w n l w') (hB : Below w'.heap.size w' w2) : SR w n l w2 :=
  ⟨h.1.below hB h.1.lt, h.2.1.below hB h.2.1.lt, h.2.2.1.below hB h.2.2.1.lt, h.2.2.2.trans (hB.mono (by have := h.1.lt; omega))⟩
theorem SR.row {w : World} {n l : Nat} {w' : World} (h : SR w n l w') {g : Nat} (hg : w.heap.size + 1 + 1 < g) (c : Array Value) : SR w n l (w'.setRow g c) :=
  ⟨h.1.rowOther (by omega) _, h.2.1.rowOther (by omega) _, h.2.2.1.rowOther (by omega) _, Below.setRow h.2.2.2 (by omega) _⟩
theorem SR.size {w : World} {n l : Nat} {w' : World} (h : SR w n l w') : w.heap.size + 1 + 1 < w'.heap.size := h.2.2.1.lt
theorem SR.setL {w : World} {n l : Nat} {w' : World} (h : SR w n l w') (c : Nat) : SR w n c (w'.setRow (w.heap.size + 1 + 1) (bigC c)) :=
  ⟨h.1.rowOther (by omega) _, h.2.1.rowOther (by omega) _, h.2.2.1.row _, Below.setRow h.2.2.2 (by omega) _⟩
set_option maxRecDepth 100000 in
set_option maxHeartbeats 4000000 in
theorem rootB_any (n : Nat) (w : World) (hn : n < 5444517870735015415413993718908291383296) :
    Calls Try.prog 162 #[.agg (bigC n)] w fun e w' => e = .returned (.agg (bigC (isqrt n))) ∧ Below w.heap.size w w' := by
  have HN := Lib.hid hn
  clear hn
  go_enter Try.func162, Try.ntmps162
  go_upto_region 2 with (fail)
  rw [zero_eq_big]
  have s : SR w n 0 (((w.alloc (.cells (bigC n) 176)).alloc (.cells (bigC 0) 176)).alloc (.cells (bigC 0) 176)) :=
    ⟨((blk.new _ _ _).alloc _).alloc _, (blk.new' (by simp)).alloc _, blk.new' (by simp), by go_grown⟩
  have S0 := s.size
  generalize ((w.alloc (.cells (bigC n) 176)).alloc (.cells (bigC 0) 176)).alloc (.cells (bigC 0) 176) = w0 at *
  go_upto_region 3 with (first | (go_at_call 118; refine (abs_any 1 _ (by omega) (by omega)).mono ?_; rintro e w1 ⟨rfl, hb⟩) | (rw [zero_eq_big]; refine wpList_store_row rfl _ _ _ rfl _ rfl _ rfl _ _ (blk.new _ _ _) (by rw [bigC_size]; kernel_rfl) (by rw [bigC_size, bigC_size]) (fnC_one _) ?_))
  replace s := ((s.below hb).alloc (.cells (bigC 0) 176)).row (g := w1.heap.size) (s.below hb).size (bigC 1)
  have p4 := (blk.new w1 (bigC 0) 176).row (bigC 1)
  have l4 : w.heap.size + 1 + 1 < w1.heap.size := by have := SR.size s; have := hb.size; have h0 : w.heap.size + 1 + 1 < w0.heap.size := S0; omega
  clear hb S0
  generalize (w1.alloc (.cells (bigC 0) 176)).setRow w1.heap.size (bigC 1) = w2 at *
  generalize w1.heap.size = b4 at *
  go_upto_region 4 with (first | (refine wpList_load_row rfl _ _ rfl _ rfl _ _ _ _ p4 Try.underlying176 rfl (by rw [bigC_size]; kernel_rfl) ?_) | (rw [zero_eq_big]; refine wpList_store_row rfl _ _ _ rfl _ rfl _ rfl _ _ (blk.new _ _ _) (by rw [bigC_size]; kernel_rfl) (by rw [bigC_size, bigC_size]) (fnC_one _) ?_))
  have l5 : w.heap.size + 1 + 1 < w2.heap.size := s.size
  have h45 : b4 ≠ w2.heap.size := by have := p4.lt; omega
  replace s := (s.alloc (.cells (bigC 0) 176)).row (g := w2.heap.size) l5 (bigC 1)
  replace p4 := (p4.alloc (.cells (bigC 0) 176)).rowOther h45 (bigC 1)
  have p5 := (blk.new w2 (bigC 0) 176).row (bigC 1)
  generalize (w2.alloc (.cells (bigC 0) 176)).setRow w2.heap.size (bigC 1) = w3 at *
  generalize w2.heap.size = b5 at *
  clear w2 w1 w0
  have e66 : bigC 1 = bigC (2 ^ 0) := rfl
  go_wp2_with (fail)
  go_loopg [6] 66 (fun k iv wr => ∃ i : Nat, k + i = 66 ∧ iv = .int .i64 i ∧ SR w n 0 wr ∧ blk wr b4 (bigC 1) 176 ∧ blk wr b5 (bigC (2 ^ i)) 176)
  case atStart => exact ⟨0, rfl, rfl, s, p4, p5⟩
  case round =>
    clear s p4 p5
    obtain ⟨i, hi, rfl, s, p4, p5⟩ := hrel
    by_cases hlt : i < 66
    · have hd : decide ((i : Int) < 66) = true := decide_eq_true (by omega)
      have hw : IntKind.i64.wrap ((i : Int) + 1) = ((i + 1 : Nat) : Int) := by rw [IntKind.wrap_i64]; omega
      have HI := Lib.hid hi
      have HLT := Lib.hid hlt
      clear hi hlt
      go_wp2_with (first | (refine wpList_load_row rfl _ _ rfl _ rfl _ _ _ _ p5 Try.underlying176 rfl (by rw [bigC_size]; kernel_rfl) ?_) | (go_at_call 160; refine (add_any (2 ^ i) (2 ^ i) _).mono ?_; rintro e w4 ⟨rfl, hb⟩) | (refine wpList_store_row rfl _ _ _ rfl _ rfl _ rfl _ _ (p5.below hb p5.lt) (by rw [bigC_size]; kernel_rfl) (by rw [bigC_size, bigC_size]) (fnC_one _) ?_))
      go_roundg (66 - (i + 1))
      case rel =>
        have hp2 : 2 ^ (i + 1) = 2 ^ i + 2 ^ i := by rw [Nat.pow_succ]; omega
        have := HI.out
        have := HLT.out
        refine ⟨i + 1, by omega, rfl, (s.below hb).row l5 _, (p4.below hb p4.lt).rowOther h45 _, ?_⟩
        rw [hp2]; exact (p5.below hb p5.lt).row _
      case measure => have := HI.out; have := HLT.out; omega
    · obtain rfl : i = 66 := by omega
      clear hi hlt
      go_wp2_with (fail)
      go_loopg [] (2 ^ 66) (fun k wr => ∃ l h : Nat, Hid (l * l ≤ n) ∧ Hid (n < h * h) ∧ Hid (l < h) ∧ Hid (h ≤ 73786976294838206464) ∧ Hid (h ≤ k + l) ∧ SR w n l wr ∧ blk wr b4 (bigC 1) 176 ∧ blk wr b5 (bigC h) 176)
      case atStart => exact ⟨0, 2 ^ 66, Nat.zero_le _, (by show n < 2 ^ 66 * 2 ^ 66; have := HN.out; omega), by show 0 < 2 ^ 66; decide, by show 2 ^ 66 ≤ 73786976294838206464; decide, by show _ ≤ _; omega, s, p4, p5⟩
      case round =>
        clear s p4 p5
        obtain ⟨l, h, hll, hhh, hlh, hh66, hk, s, p4, p5⟩ := hrel
        have HL17 := Lib.hid (show l + 1 < 65536 ^ 17 by have := hlh.out; have := hh66.out; omega)
        have HH17 := Lib.hid (show h < 65536 ^ 17 by have := hh66.out; omega)
        go_upto_region 8 with (fail)
        refine wp_region_X 4 (by kernel_rfl) (by kernel_rfl) ?_
        replace s := s.drew
        replace p4 := p4.drew
        replace p5 := p5.drew
        generalize wr.drew = wo at *
        refine wpX_take 0 (.agg (bigC l)) rfl rfl (by kernel_rfl) (fun w1 h1 => detR_row _ _ rfl _ rfl _ _ _ (s.below h1).2.2.1 Try.underlying176 rfl (by rw [bigC_size]; kernel_rfl) rfl) ?_
        simp only [Act.put, List.setIfInBounds_toArray, List.set_cons_zero, List.set_cons_succ]
        refine wpX_take 1 (.agg (bigC 1)) rfl rfl (by kernel_rfl) (fun w1 h1 => detR_row _ _ rfl _ rfl _ _ _ (p4.below h1 p4.lt) Try.underlying176 rfl (by rw [bigC_size]; kernel_rfl) rfl) ?_
        simp only [Act.put, List.setIfInBounds_toArray, List.set_cons_zero, List.set_cons_succ]
        refine wpX_take 2 (.agg (bigC (l + 1))) rfl rfl (by kernel_rfl) (fun w1 h1 => ?_) ?_
        · go_simp
          refine (add_any l 1 _).mono ?_
          rintro e w2 ⟨rfl, h2⟩
          exact ⟨rfl, h2⟩
        simp only [Act.put, List.setIfInBounds_toArray, List.set_cons_zero, List.set_cons_succ]
        refine wpX_take 3 (.agg (bigC h)) rfl rfl (by kernel_rfl) (fun w1 h1 => detR_row _ _ rfl _ rfl _ _ _ (p5.below h1 p5.lt) Try.underlying176 rfl (by rw [bigC_size]; kernel_rfl) rfl) ?_
        simp only [Act.put, List.setIfInBounds_toArray, List.set_cons_zero, List.set_cons_succ]
        refine wpX_tail (by kernel_rfl) (fun wt ht => ?_)
        simp only [List.drop_succ_cons, List.drop_zero]
        replace s := s.below ht
        replace p4 := p4.below ht p4.lt
        replace p5 := p5.below ht p5.lt
        clear ht
        by_cases hlt : l + 1 < h
        · have hd : decide (l + 1 < h) = true := decide_eq_true hlt
          obtain ⟨m, hm⟩ : ∃ m, m = (l + h) / 2 := ⟨_, rfl⟩
          have HM := Lib.hid (show l < m ∧ m < h by omega)
          have HM8 := Lib.hid (show m < 65536 ^ 8 by have := hh66.out; omega)
          have HM17 := Lib.hid (show m * m < 65536 ^ 17 by
            have h1 := HM8.out
            exact Nat.lt_of_le_of_lt (Nat.mul_le_mul (Nat.le_of_lt h1) (Nat.le_of_lt h1)) (by decide))
          have HLH := Lib.hid (show l + h < 65536 ^ 17 by have := hlh.out; have := hh66.out; omega)
          have HMD := Lib.hid hm
          clear hlt hm
          go_upto_region 9 with (go_at_call 167; refine (less_any (l + 1) h _ HL17.out HH17.out).mono ?_; rintro e w5 ⟨rfl, hb⟩)
          replace s := s.below hb
          replace p4 := p4.below hb p4.lt
          replace p5 := p5.below hb p5.lt
          clear hb hd
          go_upto_region 10 with (first | (refine wpList_load_row rfl _ _ rfl _ rfl _ _ _ _ s.2.2.1 Try.underlying176 rfl (by rw [bigC_size]; kernel_rfl) ?_) | (refine wpList_load_row rfl _ _ rfl _ rfl _ _ _ _ p5 Try.underlying176 rfl (by rw [bigC_size]; kernel_rfl) ?_) | (go_at_call 160; refine (add_any l h _).mono ?_; rintro e w6 ⟨rfl, hb⟩; replace s := s.below hb; replace p4 := p4.below hb p4.lt; replace p5 := p5.below hb p5.lt; clear hb) | (go_at_call 190; refine (half_any (l + h) _ HLH.out).mono ?_; rintro e w7 ⟨rfl, hb⟩; rw [← HMD.out]; replace s := s.below hb; replace p4 := p4.below hb p4.lt; replace p5 := p5.below hb p5.lt; clear hb) | (rw [zero_eq_big]; refine wpList_store_row rfl _ _ _ rfl _ rfl _ rfl _ _ (blk.new _ _ _) (by rw [bigC_size]; kernel_rfl) (by rw [bigC_size, bigC_size]) (fnC_one _) ?_))
          have l7 : w.heap.size + 1 + 1 < w7.heap.size := s.size
          have h47 : b4 ≠ w7.heap.size := by have := p4.lt; omega
          have h57 : b5 ≠ w7.heap.size := by have := p5.lt; omega
          replace s := (s.alloc (.cells (bigC 0) 176)).row (g := w7.heap.size) l7 (bigC m)
          replace p4 := (p4.alloc (.cells (bigC 0) 176)).rowOther h47 (bigC m)
          replace p5 := (p5.alloc (.cells (bigC 0) 176)).rowOther h57 (bigC m)
          have p7 := (blk.new w7 (bigC 0) 176).row (bigC m)
          generalize (w7.alloc (.cells (bigC 0) 176)).setRow w7.heap.size (bigC m) = w8 at *
          generalize w7.heap.size = b7 at *
          clear w7
          refine wp_region_X 4 (by kernel_rfl) (by kernel_rfl) ?_
          replace s := s.drew
          replace p4 := p4.drew
          replace p5 := p5.drew
          replace p7 := p7.drew
          generalize w8.drew = wo at *
          refine wpX_take 0 (.agg (bigC n)) rfl rfl (by kernel_rfl) (fun w1 h1 => detR_row _ _ rfl _ rfl _ _ _ (s.below h1).1 Try.underlying176 rfl (by rw [bigC_size]; kernel_rfl) rfl) ?_
          simp only [Act.put, List.setIfInBounds_toArray, List.set_cons_zero, List.set_cons_succ]
          refine wpX_take 1 (.agg (bigC m)) rfl rfl (by kernel_rfl) (fun w1 h1 => detR_row _ _ rfl _ rfl _ _ _ (p7.below h1 p7.lt) Try.underlying176 rfl (by rw [bigC_size]; kernel_rfl) rfl) ?_
          simp only [Act.put, List.setIfInBounds_toArray, List.set_cons_zero, List.set_cons_succ]
          refine wpX_take 2 (.agg (bigC m)) rfl rfl (by kernel_rfl) (fun w1 h1 => detR_row _ _ rfl _ rfl _ _ _ (p7.below h1 p7.lt) Try.underlying176 rfl (by rw [bigC_size]; kernel_rfl) rfl) ?_
          simp only [Act.put, List.setIfInBounds_toArray, List.set_cons_zero, List.set_cons_succ]
          refine wpX_take 3 (.agg (bigC (m * m))) rfl rfl (by kernel_rfl) (fun w1 h1 => ?_) ?_
          · go_simp
            refine (times_any m m _ HM8.out HM8.out).mono ?_
            rintro e w2 ⟨rfl, h2⟩
            exact ⟨rfl, h2⟩
          simp only [Act.put, List.setIfInBounds_toArray, List.set_cons_zero, List.set_cons_succ]
          refine wpX_tail (by kernel_rfl) (fun wt ht => ?_)
          simp only [List.drop_succ_cons, List.drop_zero]
          replace s := s.below ht
          replace p4 := p4.below ht p4.lt
          replace p5 := p5.below ht p5.lt
          replace p7 := p7.below ht p7.lt
          clear ht
          have HN17 := Lib.hid (show n < 65536 ^ 17 by have := HN.out; omega)
          by_cases hlt : n < m * m
          · have hd : decide (n < m * m) = true := decide_eq_true hlt
            have HLT := Lib.hid hlt
            clear hlt
            go_upto_region 11 with (go_at_call 167; refine (less_any n (m * m) _ HN17.out HM17.out).mono ?_; rintro e w9 ⟨rfl, hb⟩)
            replace s := s.below hb
            replace p4 := p4.below hb p4.lt
            replace p5 := p5.below hb p5.lt
            replace p7 := p7.below hb p7.lt
            clear hb hd
            go_wp2_with (first | (refine wpList_load_row rfl _ _ rfl _ rfl _ _ _ _ p7 Try.underlying176 rfl (by rw [bigC_size]; kernel_rfl) ?_) | (refine wpList_store_row rfl _ _ _ rfl _ rfl _ rfl _ _ p5 (by rw [bigC_size]; kernel_rfl) (by rw [bigC_size, bigC_size]) (fnC_one _) ?_))
            go_roundg (m - l)
            case rel =>
              have h1 := HM.out
              exact ⟨l, m, hll, HLT, h1.1, by show _ ≤ _; have := hh66.out; omega, by show _ ≤ _; omega, s.row l5 _, p4.rowOther h45 _, p5.row _⟩
            case measure => have h1 := HM.out; have h2 := hk.out; omega
          · have hd : decide (n < m * m) = false := decide_eq_false hlt
            have HLT := Lib.hid (Nat.le_of_not_lt hlt)
            clear hlt
            go_upto_region 12 with (go_at_call 167; refine (less_any n (m * m) _ HN17.out HM17.out).mono ?_; rintro e w9 ⟨rfl, hb⟩)
            replace s := s.below hb
            replace p4 := p4.below hb p4.lt
            replace p5 := p5.below hb p5.lt
            replace p7 := p7.below hb p7.lt
            clear hb hd
            go_wp2_with (first | (refine wpList_load_row rfl _ _ rfl _ rfl _ _ _ _ p7 Try.underlying176 rfl (by rw [bigC_size]; kernel_rfl) ?_) | (refine wpList_store_row rfl _ _ _ rfl _ rfl _ rfl _ _ s.2.2.1 (by rw [bigC_size]; kernel_rfl) (by rw [bigC_size, bigC_size]) (fnC_one _) ?_))
            go_roundg (h - m)
            case rel =>
              have h1 := HM.out
              exact ⟨m, h, HLT, hhh, h1.2, hh66, by show _ ≤ _; omega, s.setL _, p4.rowOther (by omega) _, p5.rowOther (by omega) _⟩
            case measure => have h1 := HM.out; have h2 := hk.out; omega
        · have hd : decide (l + 1 < h) = false := decide_eq_false hlt
          have HE := Lib.hid (show isqrt n = l by
            have h1 := hlh.out
            have h2 := hhh.out
            obtain rfl : h = l + 1 := by omega
            exact isqrt_eq (Nat.lt_trans HN.out (by decide)) hll.out h2)
          clear hlt
          go_upto_region 13 with (go_at_call 167; refine (less_any (l + 1) h _ HL17.out HH17.out).mono ?_; rintro e w5 ⟨rfl, hb⟩)
          replace s := s.below hb
          clear hb hd p4 p5
          have H1 := Lib.hid (bigC_size l)
          go_wp2_with (first | (refine wpList_load_row rfl _ _ rfl _ rfl _ _ _ _ s.2.2.1 Try.underlying176 rfl (by rw [bigC_size]; kernel_rfl) ?_) | (refine wpList_store_row rfl _ _ _ rfl _ rfl _ rfl _ _ s.2.1 (by rw [bigC_size]; kernel_rfl) (by rw [bigC_size, bigC_size]) (fnC_one _) ?_))
          refine bodyPost_ret (results_cell_row rfl _ _ _ _ _ _ _ rfl (s.2.1.row _) Try.underlying176 rfl (by rw [H1.out]; kernel_rfl)) rfl ⟨?_, Below.setRow s.2.2.2 (by omega) _⟩
          rw [HE.out]
end Go.Proofs.Ytkmelddejdikgaa
namespace Go.Proofs.Ytkmelddejdikgaa
open Go.RowKit PM Dt
set_option maxRecDepth 100000 in
set_option maxHeartbeats 2000000 in
theorem rhypot_any (xs : List Int) (v : Value) (w : World) (hv : Ints w v xs) (hx : ∀ k, k < xs.length → I64 (xs.getD k 0)) :
    Calls Try.prog 111 #[v] w fun e w' => e = .returned (.tuple #[.int .i64 (if 8 < xs.length then 0 else fitV (hypQ xs)), .int .i64 (if 8 < xs.length then 2 else fitE (hypQ xs))]) ∧ Below w.heap.size w w' := by
  have hlenI : ∀ a c n, v = .slice a n c → n = xs.length := by
    rintro a c n rfl
    rcases hv with ⟨h, a', c', hh⟩ | ⟨_, b, off, cap, hh, _⟩
    · cases hh; rw [h]; rfl
    · cases hh; rfl
  obtain ⟨va, vc, n, rfl⟩ : ∃ a c n, v = .slice a n c := by
    rcases hv with ⟨h, a', c', hh⟩ | ⟨_, b, off, cap, hh, _⟩
    · exact ⟨_, _, _, hh⟩
    · exact ⟨_, _, _, hh⟩
  have hn := hlenI _ _ _ rfl
  clear hlenI
  by_cases h8 : 8 < n
  · rw [if_pos (hn ▸ h8), if_pos (hn ▸ h8)]
    have hd : decide (8 < n) = true := decide_eq_true h8
    have hd' : decide ((8 : Int) < (n : Int)) = true := decide_eq_true (by omega)
    clear hv hx hn
    go_enter Try.func111, Try.ntmps111
    go_wp2_with (fail)
    go_ret2
    exact ⟨rfl, Below.refl _ _⟩
  · rw [if_neg (hn ▸ h8), if_neg (hn ▸ h8)]
    have hd : decide (8 < n) = false := decide_eq_false h8
    have hd' : decide ((8 : Int) < (n : Int)) = false := decide_eq_false (by omega)
    have HN := Lib.hid hn
    have HV := Lib.hid hv
    have HX := Lib.hid hx
    have HTOT := Lib.hid (sqs_take_le xs)
    have HTOT2 := Lib.hid (sqs_le xs 8 (by omega) hx)
    have hn8 : n ≤ 8 := by omega
    clear hn hv hx h8
    go_enter Try.func111, Try.ntmps111
    go_wp2_with (fail)
    rw [zero_eq_big]
    go_loopg [5] n (fun g iv wr => ∃ k : Nat, g + k = n ∧ iv = .int .i64 k ∧ blk wr w.heap.size (bigC (sqs (xs.take k))) 176 ∧ Below w.heap.size w wr)
    case atStart => exact ⟨0, rfl, rfl, by rw [List.take_zero, sqs_nil]; exact blk.new _ _ _, by go_grown⟩
    case round =>
      obtain ⟨k, hk, rfl, p, hB⟩ := hrel
      by_cases hkn : k < n
      · have hdk : decide ((k : Int) < (n : Int)) = true := decide_eq_true (by omega)
        have hdk' : decide (k < n) = true := decide_eq_true (by omega)
        obtain ⟨b, off, rfl, hbw, hcell⟩ : ∃ b off, va = some ⟨b, off, none⟩ ∧ b < w.heap.size ∧ w.cell? ⟨b, off + k, none⟩ = some (.int .i64 (xs.getD k 0)) := by
          rcases HV.out with ⟨h, _⟩ | ⟨_, b, off, cap, hh, hbw, hc⟩
          · have := HN.out; rw [h] at this; simp at this; omega
          · cases hh; exact ⟨b, off, rfl, hbw, hc k hkn⟩
        have hI := HX.out k (by have := HN.out; omega)
        have hsx := sqs_take_succ xs k (by have := HN.out; omega)
        obtain ⟨x, hxx⟩ : ∃ x, x = xs.getD k 0 := ⟨_, rfl⟩
        rw [← hxx] at hI hsx hcell
        obtain ⟨A, hA⟩ : ∃ A, A = x.natAbs := ⟨_, rfl⟩
        rw [← hA] at hsx
        obtain ⟨S, hS⟩ : ∃ S, S = sqs (xs.take k) := ⟨_, rfl⟩
        rw [← hS] at hsx p
        have HSX := Lib.hid hsx
        have HA := Lib.hid hA
        have HA8 := Lib.hid (show A < 65536 ^ 8 by rw [hA]; have := hI.1; have := hI.2; omega)
        have HI1 := Lib.hid hI.1
        have HI2 := Lib.hid hI.2
        have HCELL := Lib.hid hcell
        have HBW := Lib.hid hbw
        have hw3 : IntKind.i64.wrap ((k : Int) + 1) = ((k + 1 : Nat) : Int) := by rw [IntKind.wrap_i64]; omega
        have cellIn : Hid (∀ w1, Below w.heap.size w w1 → w1.cell? ⟨b, off + k, none⟩ = some (.int .i64 x)) := by
          intro w1 h1
          rw [h1.cell (p := ⟨b, off + k, none⟩) HBW.out]; exact HCELL.out
        clear hI hsx hcell hxx hA hS hbw
        go_upto_region 7 with (fail)
        refine wp_region_X 13 (by kernel_rfl) (by kernel_rfl) ?_
        replace p := p.drew
        replace hB : Below w.heap.size w wr.drew := hB.drew
        generalize wr.drew = wo at *
        refine wpX_take 0 (.agg (bigC S)) rfl rfl (by kernel_rfl) (fun w1 h1 => detR_row _ _ rfl _ rfl _ _ _ (p.below h1 p.lt) Try.underlying176 rfl (by rw [bigC_size]; kernel_rfl) rfl) ?_
        simp only [Act.put, List.setIfInBounds_toArray, List.set_cons_zero, List.set_cons_succ]
        refine wpX_take 1 (.slice (some ⟨b, off, none⟩) n vc) rfl rfl (by kernel_rfl) (fun w1 h1 => by go_simp; exact ⟨rfl, Below.refl _ _⟩) ?_
        simp only [Act.put, List.setIfInBounds_toArray, List.set_cons_zero, List.set_cons_succ]
        refine wpX_take 2 (.int .i64 k) rfl rfl (by kernel_rfl) (fun w1 h1 => by go_simp; exact ⟨rfl, Below.refl _ _⟩) ?_
        simp only [Act.put, List.setIfInBounds_toArray, List.set_cons_zero, List.set_cons_succ]
        refine wpX_take 3 (.pointer (some ⟨b, off + k, none⟩)) rfl rfl (by kernel_rfl) (fun w1 h1 => by go_simp; exact ⟨rfl, Below.refl _ _⟩) ?_
        simp only [Act.put, List.setIfInBounds_toArray, List.set_cons_zero, List.set_cons_succ]
        refine wpX_take 4 (.int .i64 x) rfl rfl (by kernel_rfl) (fun w1 h1 => by have hc := cellIn.out w1 (hB.trans (h1.mono (by have := p.lt; omega))); go_simp; exact ⟨rfl, Below.refl _ _⟩) ?_
        simp only [Act.put, List.setIfInBounds_toArray, List.set_cons_zero, List.set_cons_succ]
        refine wpX_take 5 (.agg (bigC A)) rfl rfl (by kernel_rfl) (fun w1 h1 => ?_) ?_
        · go_simp
          refine (abs_any x _ HI1.out HI2.out).mono ?_
          rintro e w2 ⟨rfl, h2⟩
          exact ⟨by rw [← HA.out], h2⟩
        simp only [Act.put, List.setIfInBounds_toArray, List.set_cons_zero, List.set_cons_succ]
        refine wpX_take 6 (.slice (some ⟨b, off, none⟩) n vc) rfl rfl (by kernel_rfl) (fun w1 h1 => by go_simp; exact ⟨rfl, Below.refl _ _⟩) ?_
        simp only [Act.put, List.setIfInBounds_toArray, List.set_cons_zero, List.set_cons_succ]
        refine wpX_take 7 (.int .i64 k) rfl rfl (by kernel_rfl) (fun w1 h1 => by go_simp; exact ⟨rfl, Below.refl _ _⟩) ?_
        simp only [Act.put, List.setIfInBounds_toArray, List.set_cons_zero, List.set_cons_succ]
        refine wpX_take 8 (.pointer (some ⟨b, off + k, none⟩)) rfl rfl (by kernel_rfl) (fun w1 h1 => by go_simp; exact ⟨rfl, Below.refl _ _⟩) ?_
        simp only [Act.put, List.setIfInBounds_toArray, List.set_cons_zero, List.set_cons_succ]
        refine wpX_take 9 (.int .i64 x) rfl rfl (by kernel_rfl) (fun w1 h1 => by have hc := cellIn.out w1 (hB.trans (h1.mono (by have := p.lt; omega))); go_simp; exact ⟨rfl, Below.refl _ _⟩) ?_
        simp only [Act.put, List.setIfInBounds_toArray, List.set_cons_zero, List.set_cons_succ]
        refine wpX_take 10 (.agg (bigC A)) rfl rfl (by kernel_rfl) (fun w1 h1 => ?_) ?_
        · go_simp
          refine (abs_any x _ HI1.out HI2.out).mono ?_
          rintro e w2 ⟨rfl, h2⟩
          exact ⟨by rw [← HA.out], h2⟩
        simp only [Act.put, List.setIfInBounds_toArray, List.set_cons_zero, List.set_cons_succ]
        refine wpX_take 11 (.agg (bigC (A * A))) rfl rfl (by kernel_rfl) (fun w1 h1 => ?_) ?_
        · go_simp
          refine (times_any A A _ HA8.out HA8.out).mono ?_
          rintro e w2 ⟨rfl, h2⟩
          exact ⟨rfl, h2⟩
        simp only [Act.put, List.setIfInBounds_toArray, List.set_cons_zero, List.set_cons_succ]
        refine wpX_take 12 (.agg (bigC (S + A * A))) rfl rfl (by kernel_rfl) (fun w1 h1 => ?_) ?_
        · go_simp
          refine (add_any S (A * A) _).mono ?_
          rintro e w2 ⟨rfl, h2⟩
          exact ⟨rfl, h2⟩
        simp only [Act.put, List.setIfInBounds_toArray, List.set_cons_zero, List.set_cons_succ]
        refine wpX_tail (by kernel_rfl) (fun wt ht => ?_)
        simp only [List.drop_succ_cons, List.drop_zero]
        replace hB := hB.trans (ht.mono (by have := p.lt; omega))
        replace p := p.below ht p.lt
        clear ht
        go_wp2_with (refine wpList_store_row rfl _ _ _ rfl _ rfl _ rfl _ _ p (by rw [bigC_size]; kernel_rfl) (by rw [bigC_size, bigC_size]) (fnC_one _) ?_)
        go_roundg (n - (k + 1))
        case rel => exact ⟨k + 1, by omega, rfl, by rw [HSX.out]; exact p.row _, Below.setRow hB (Nat.le_refl _) _⟩
        case measure => omega
      · obtain rfl : k = n := by omega
        have hdk : decide ((k : Int) < (k : Int)) = false := decide_eq_false (by omega)
        have hdk' : decide (k < k) = false := decide_eq_false (by omega)
        have hs2 : sqs (xs.take k) = sqs xs := by rw [HN.out, List.take_length]
        rw [hs2] at p
        have HR := Lib.hid (show sqs xs < 5444517870735015415413993718908291383296 from Nat.lt_of_le_of_lt HTOT2.out (by decide))
        obtain ⟨r, hr⟩ : ∃ r, r = isqrt (sqs xs) := ⟨_, rfl⟩
        have HRR := Lib.hid hr
        have HR17 := Lib.hid (show r < 65536 ^ 17 by
          rw [hr]
          exact (isqrt_lt (Nat.lt_trans HR.out (by decide))).2 (Nat.lt_trans HR.out (by decide)))
        have HQ : Hid (hypQ xs = sgn false r) := by show hypQ xs = _; unfold hypQ sgn; rw [← hr]; rfl
        clear hs2 hr
        go_wp2_with (first
          | (refine wpList_load_row rfl _ _ rfl _ rfl _ _ _ _ p Try.underlying176 rfl (by rw [bigC_size]; kernel_rfl) ?_)
          | (go_at_call 162; refine (rootB_any (sqs xs) _ HR.out).mono ?_; rintro e w1 ⟨rfl, hb⟩; rw [← HRR.out]; replace hB := hB.trans (hb.mono (by have := p.lt; omega)); clear hb)
          | (go_at_call 161; refine (rsigned_any r false _ HR17.out).mono ?_; rintro e w1 ⟨rfl, hb⟩; replace hB := hB.trans (hb.mono hB.size); clear hb))
        go_ret2
        exact ⟨ret2I (by rw [HQ.out]) (by rw [HQ.out]), hB⟩
end Go.Proofs.Ytkmelddejdikgaa
