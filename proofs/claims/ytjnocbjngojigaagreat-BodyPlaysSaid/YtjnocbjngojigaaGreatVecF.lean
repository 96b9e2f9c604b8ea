/-
  Square roots by the specification's own numbers (package perigeeref01): Root. Square roots and norms by the specification's own numbers (package perigeeref01): Sqrt, Hypot. Vectors of three numbers: what it is that one is valid, in the package and in its specification. Products and norms of vectors of three numbers, in the package and in its specification. A vector component by component: each, with the function that gives the components. Sines and cosines of package fixed and of its specification: what they return. The same of the specification of vectors: dot, two, Dot, Norm, result, Cross. Vector products, in the package and in its specification. Vector products as a whole, in the package and in its specification.
-/
import Derived.Test.YtjnocbjngojigaaGreatHyp
import Derived.Test.YtjnocbjngojigaaGreatAlg
import Derived.Test.YtjnocbjngojigaaGreatFDot
import Derived.Laws.ResultCell
import Derived.Test.YtjnocbjngojigaaGreatBase
set_option linter.unusedSimpArgs false
set_option linter.unusedVariables false
namespace Go.Proofs.YtjnocbjngojigaaGreat
open Go.RowKit PM Dt
def SR (w : World) (n l : Nat) (w' : World) : Prop := blk w' w.heap.size (bigC n) 123 ∧ blk w' (w.heap.size + 1) (bigC 0) 123 ∧ blk w' (w.heap.size + 1 + 1) (bigC l) 123 ∧ Below w.heap.size w w'
theorem SR.drew {w : World} {n l : Nat} {w' : World} (h : SR w n l w') : SR w n l w'.drew := ⟨h.1.drew, h.2.1.drew, h.2.2.1.drew, h.2.2.2.drew⟩
theorem SR.alloc {w : World} {n l : Nat} {w' : World} (h : SR w n l w') (o : Obj) : SR w n l (w'.alloc o) :=
  ⟨h.1.alloc _, h.2.1.alloc _, h.2.2.1.alloc _, h.2.2.2.alloc (by have := h.1.lt; omega) _⟩
theorem SR.below {w : World} {n l : Nat} {w' w2 : World} (h : SR w n l w') (hB : Below w'.heap.size w' w2) : SR w n l w2 :=
  ⟨h.1.below hB h.1.lt, h.2.1.below hB h.2.1.lt, h.2.2.1.below hB h.2.2.1.lt, h.2.2.2.trans (hB.mono (by have := h.1.lt; omega))⟩
theorem SR.row {w : World} {n l : Nat} {w' : World} (h : SR w n l w') {g : Nat} (hg : w.heap.size + 1 + 1 < g) (c : Array Value) : SR w n l (w'.setRow g c) :=
  ⟨h.1.rowOther (by omega) _, h.2.1.rowOther (by omega) _, h.2.2.1.rowOther (by omega) _, Below.setRow h.2.2.2 (by omega) _⟩
theorem SR.size {w : World} {n l : Nat} {w' : World} (h : SR w n l w') : w.heap.size + 1 + 1 < w'.heap.size := h.2.2.1.lt
theorem SR.setL {w : World} {n l : Nat} {w' : World} (h : SR w n l w') (c : Nat) : SR w n c (w'.setRow (w.heap.size + 1 + 1) (bigC c)) :=
  ⟨h.1.rowOther (by omega) _, h.2.1.rowOther (by omega) _, h.2.2.1.row _, Below.setRow h.2.2.2 (by omega) _⟩
set_option maxRecDepth 100000 in
set_option maxHeartbeats 4000000 in
theorem rootB_any (n : Nat) (w : World) (hn : n < 5444517870735015415413993718908291383296) :
    Calls Tryz.prog 133 #[.agg (bigC n)] w fun e w' => e = .returned (.agg (bigC (isqrt n))) ∧ Below w.heap.size w w' := by
  have HN := Lib.hid hn
  clear hn
  go_enter Tryz.func133, Tryz.ntmps133
  go_upto_region 2 with (fail)
  rw [zero_eq_big]
  have s : SR w n 0 (((w.alloc (.cells (bigC n) 123)).alloc (.cells (bigC 0) 123)).alloc (.cells (bigC 0) 123)) :=
    ⟨((blk.new _ _ _).alloc _).alloc _, (blk.new' (by simp)).alloc _, blk.new' (by simp), by go_grown⟩
  have S0 := s.size
  generalize ((w.alloc (.cells (bigC n) 123)).alloc (.cells (bigC 0) 123)).alloc (.cells (bigC 0) 123) = w0 at *
  go_upto_region 3 with (first | (go_at_call 93; refine (abs_any 1 _ (by omega) (by omega)).mono ?_; rintro e w1 ⟨rfl, hb⟩) | (rw [zero_eq_big]; refine wpList_store_row rfl _ _ _ rfl _ rfl _ rfl _ _ (blk.new _ _ _) (by rw [bigC_size]; kernel_rfl) (by rw [bigC_size, bigC_size]) (fnC_one _) ?_))
  replace s := ((s.below hb).alloc (.cells (bigC 0) 123)).row (g := w1.heap.size) (s.below hb).size (bigC 1)
  have p4 := (blk.new w1 (bigC 0) 123).row (bigC 1)
  have l4 : w.heap.size + 1 + 1 < w1.heap.size := by have := SR.size s; have := hb.size; have h0 : w.heap.size + 1 + 1 < w0.heap.size := S0; omega
  clear hb S0
  generalize (w1.alloc (.cells (bigC 0) 123)).setRow w1.heap.size (bigC 1) = w2 at *
  generalize w1.heap.size = b4 at *
  go_upto_region 4 with (first | (refine wpList_load_row rfl _ _ rfl _ rfl _ _ _ _ p4 Tryz.underlying123 rfl (by rw [bigC_size]; kernel_rfl) ?_) | (rw [zero_eq_big]; refine wpList_store_row rfl _ _ _ rfl _ rfl _ rfl _ _ (blk.new _ _ _) (by rw [bigC_size]; kernel_rfl) (by rw [bigC_size, bigC_size]) (fnC_one _) ?_))
  have l5 : w.heap.size + 1 + 1 < w2.heap.size := s.size
  have h45 : b4 ≠ w2.heap.size := by have := p4.lt; omega
  replace s := (s.alloc (.cells (bigC 0) 123)).row (g := w2.heap.size) l5 (bigC 1)
  replace p4 := (p4.alloc (.cells (bigC 0) 123)).rowOther h45 (bigC 1)
  have p5 := (blk.new w2 (bigC 0) 123).row (bigC 1)
  generalize (w2.alloc (.cells (bigC 0) 123)).setRow w2.heap.size (bigC 1) = w3 at *
  generalize w2.heap.size = b5 at *
  clear w2 w1 w0
  have e66 : bigC 1 = bigC (2 ^ 0) := rfl
  go_wp2_with (fail)
  go_loopg [6] 66 (fun k iv wr => ∃ i : Nat, k + i = 66 ∧ iv = .int .i64 i ∧ SR w n 0 wr ∧ blk wr b4 (bigC 1) 123 ∧ blk wr b5 (bigC (2 ^ i)) 123)
  case atStart => exact ⟨0, rfl, rfl, s, p4, p5⟩
  case round =>
    clear s p4 p5
    obtain ⟨i, hi, rfl, s, p4, p5⟩ := hrel
    by_cases hlt : i < 66
    · have hd : decide ((i : Int) < 66) = true := decide_eq_true (by omega)
      have hw : IntKind.i64.wrap ((i : Int) + 1) = ((i + 1 : Nat) : Int) := by rw [IntKind.wrap_i64]; omega
      have HI := Lib.hid hi
      have HLT := Lib.hid hlt
      clear hi hlt
      go_wp2_with (first | (refine wpList_load_row rfl _ _ rfl _ rfl _ _ _ _ p5 Tryz.underlying123 rfl (by rw [bigC_size]; kernel_rfl) ?_) | (go_at_call 132; refine (add_any (2 ^ i) (2 ^ i) _).mono ?_; rintro e w4 ⟨rfl, hb⟩) | (refine wpList_store_row rfl _ _ _ rfl _ rfl _ rfl _ _ (p5.below hb p5.lt) (by rw [bigC_size]; kernel_rfl) (by rw [bigC_size, bigC_size]) (fnC_one _) ?_))
      go_roundg (66 - (i + 1))
      case rel =>
        have hp2 : 2 ^ (i + 1) = 2 ^ i + 2 ^ i := by rw [Nat.pow_succ]; omega
        have := HI.out
        have := HLT.out
        refine ⟨i + 1, by omega, rfl, (s.below hb).row l5 _, (p4.below hb p4.lt).rowOther h45 _, ?_⟩
        rw [hp2]; exact (p5.below hb p5.lt).row _
      case measure => have := HI.out; have := HLT.out; omega
    · obtain rfl : i = 66 := by omega
      clear hi hlt
      go_wp2_with (fail)
      go_loopg [] (2 ^ 66) (fun k wr => ∃ l h : Nat, Hid (l * l ≤ n) ∧ Hid (n < h * h) ∧ Hid (l < h) ∧ Hid (h ≤ 73786976294838206464) ∧ Hid (h ≤ k + l) ∧ SR w n l wr ∧ blk wr b4 (bigC 1) 123 ∧ blk wr b5 (bigC h) 123)
      case atStart => exact ⟨0, 2 ^ 66, Nat.zero_le _, (by show n < 2 ^ 66 * 2 ^ 66; have := HN.out; omega), by show 0 < 2 ^ 66; decide, by show 2 ^ 66 ≤ 73786976294838206464; decide, by show _ ≤ _; omega, s, p4, p5⟩
      case round =>
        clear s p4 p5
        obtain ⟨l, h, hll, hhh, hlh, hh66, hk, s, p4, p5⟩ := hrel
        have HL17 := Lib.hid (show l + 1 < 65536 ^ 17 by have := hlh.out; have := hh66.out; omega)
        have HH17 := Lib.hid (show h < 65536 ^ 17 by have := hh66.out; omega)
        go_upto_region 8 with (fail)
        refine wp_region_X 4 (by kernel_rfl) (by kernel_rfl) ?_
        replace s := s.drew
        replace p4 := p4.drew
        replace p5 := p5.drew
        generalize wr.drew = wo at *
        refine wpX_take 0 (.agg (bigC l)) rfl rfl (by kernel_rfl) (fun w1 h1 => detR_row _ _ rfl _ rfl _ _ _ (s.below h1).2.2.1 Tryz.underlying123 rfl (by rw [bigC_size]; kernel_rfl) rfl) ?_
        simp only [Act.put, sIT, sCZ, sCS]
        refine wpX_take 1 (.agg (bigC 1)) rfl rfl (by kernel_rfl) (fun w1 h1 => detR_row _ _ rfl _ rfl _ _ _ (p4.below h1 p4.lt) Tryz.underlying123 rfl (by rw [bigC_size]; kernel_rfl) rfl) ?_
        simp only [Act.put, sIT, sCZ, sCS]
        refine wpX_take 2 (.agg (bigC (l + 1))) rfl rfl (by kernel_rfl) (fun w1 h1 => ?_) ?_
        · go_simp
          refine (add_any l 1 _).mono ?_
          rintro e w2 ⟨rfl, h2⟩
          exact ⟨rfl, h2⟩
        simp only [Act.put, sIT, sCZ, sCS]
        refine wpX_take 3 (.agg (bigC h)) rfl rfl (by kernel_rfl) (fun w1 h1 => detR_row _ _ rfl _ rfl _ _ _ (p5.below h1 p5.lt) Tryz.underlying123 rfl (by rw [bigC_size]; kernel_rfl) rfl) ?_
        simp only [Act.put, sIT, sCZ, sCS]
        refine wpX_tail (by kernel_rfl) (fun wt ht => ?_)
        simp only [List.drop_succ_cons, List.drop_zero]
        replace s := s.below ht
        replace p4 := p4.below ht p4.lt
        replace p5 := p5.below ht p5.lt
        clear ht
        by_cases hlt : l + 1 < h
        · have hd : decide (l + 1 < h) = true := decide_eq_true hlt
          obtain ⟨m, hm⟩ : ∃ m, m = (l + h) / 2 := ⟨_, rfl⟩
          have HM := Lib.hid (show l < m ∧ m < h by omega)
          have HM8 := Lib.hid (show m < 65536 ^ 8 by have := hh66.out; omega)
          have HM17 := Lib.hid (show m * m < 65536 ^ 17 by
            have h1 := HM8.out
            exact Nat.lt_of_le_of_lt (Nat.mul_le_mul (Nat.le_of_lt h1) (Nat.le_of_lt h1)) (by decide))
          have HLH := Lib.hid (show l + h < 65536 ^ 17 by have := hlh.out; have := hh66.out; omega)
          have HMD := Lib.hid hm
          clear hlt hm
          go_upto_region 9 with (go_at_call 130; refine (less_any (l + 1) h _ HL17.out HH17.out).mono ?_; rintro e w5 ⟨rfl, hb⟩)
          replace s := s.below hb
          replace p4 := p4.below hb p4.lt
          replace p5 := p5.below hb p5.lt
          clear hb hd
          go_upto_region 10 with (first | (refine wpList_load_row rfl _ _ rfl _ rfl _ _ _ _ s.2.2.1 Tryz.underlying123 rfl (by rw [bigC_size]; kernel_rfl) ?_) | (refine wpList_load_row rfl _ _ rfl _ rfl _ _ _ _ p5 Tryz.underlying123 rfl (by rw [bigC_size]; kernel_rfl) ?_) | (go_at_call 132; refine (add_any l h _).mono ?_; rintro e w6 ⟨rfl, hb⟩; replace s := s.below hb; replace p4 := p4.below hb p4.lt; replace p5 := p5.below hb p5.lt; clear hb) | (go_at_call 134; refine (half_any (l + h) _ HLH.out).mono ?_; rintro e w7 ⟨rfl, hb⟩; rw [← HMD.out]; replace s := s.below hb; replace p4 := p4.below hb p4.lt; replace p5 := p5.below hb p5.lt; clear hb) | (rw [zero_eq_big]; refine wpList_store_row rfl _ _ _ rfl _ rfl _ rfl _ _ (blk.new _ _ _) (by rw [bigC_size]; kernel_rfl) (by rw [bigC_size, bigC_size]) (fnC_one _) ?_))
          have l7 : w.heap.size + 1 + 1 < w7.heap.size := s.size
          have h47 : b4 ≠ w7.heap.size := by have := p4.lt; omega
          have h57 : b5 ≠ w7.heap.size := by have := p5.lt; omega
          replace s := (s.alloc (.cells (bigC 0) 123)).row (g := w7.heap.size) l7 (bigC m)
          replace p4 := (p4.alloc (.cells (bigC 0) 123)).rowOther h47 (bigC m)
          replace p5 := (p5.alloc (.cells (bigC 0) 123)).rowOther h57 (bigC m)
          have p7 := (blk.new w7 (bigC 0) 123).row (bigC m)
          generalize (w7.alloc (.cells (bigC 0) 123)).setRow w7.heap.size (bigC m) = w8 at *
          generalize w7.heap.size = b7 at *
          clear w7
          refine wp_region_X 4 (by kernel_rfl) (by kernel_rfl) ?_
          replace s := s.drew
          replace p4 := p4.drew
          replace p5 := p5.drew
          replace p7 := p7.drew
          generalize w8.drew = wo at *
          refine wpX_take 0 (.agg (bigC n)) rfl rfl (by kernel_rfl) (fun w1 h1 => detR_row _ _ rfl _ rfl _ _ _ (s.below h1).1 Tryz.underlying123 rfl (by rw [bigC_size]; kernel_rfl) rfl) ?_
          simp only [Act.put, sIT, sCZ, sCS]
          refine wpX_take 1 (.agg (bigC m)) rfl rfl (by kernel_rfl) (fun w1 h1 => detR_row _ _ rfl _ rfl _ _ _ (p7.below h1 p7.lt) Tryz.underlying123 rfl (by rw [bigC_size]; kernel_rfl) rfl) ?_
          simp only [Act.put, sIT, sCZ, sCS]
          refine wpX_take 2 (.agg (bigC m)) rfl rfl (by kernel_rfl) (fun w1 h1 => detR_row _ _ rfl _ rfl _ _ _ (p7.below h1 p7.lt) Tryz.underlying123 rfl (by rw [bigC_size]; kernel_rfl) rfl) ?_
          simp only [Act.put, sIT, sCZ, sCS]
          refine wpX_take 3 (.agg (bigC (m * m))) rfl rfl (by kernel_rfl) (fun w1 h1 => ?_) ?_
          · go_simp
            refine (times_any m m _ HM8.out HM8.out).mono ?_
            rintro e w2 ⟨rfl, h2⟩
            exact ⟨rfl, h2⟩
          simp only [Act.put, sIT, sCZ, sCS]
          refine wpX_tail (by kernel_rfl) (fun wt ht => ?_)
          simp only [List.drop_succ_cons, List.drop_zero]
          replace s := s.below ht
          replace p4 := p4.below ht p4.lt
          replace p5 := p5.below ht p5.lt
          replace p7 := p7.below ht p7.lt
          clear ht
          have HN17 := Lib.hid (show n < 65536 ^ 17 by have := HN.out; omega)
          by_cases hlt : n < m * m
          · have hd : decide (n < m * m) = true := decide_eq_true hlt
            have HLT := Lib.hid hlt
            clear hlt
            go_upto_region 11 with (go_at_call 130; refine (less_any n (m * m) _ HN17.out HM17.out).mono ?_; rintro e w9 ⟨rfl, hb⟩)
            replace s := s.below hb
            replace p4 := p4.below hb p4.lt
            replace p5 := p5.below hb p5.lt
            replace p7 := p7.below hb p7.lt
            clear hb hd
            go_wp2_with (first | (refine wpList_load_row rfl _ _ rfl _ rfl _ _ _ _ p7 Tryz.underlying123 rfl (by rw [bigC_size]; kernel_rfl) ?_) | (refine wpList_store_row rfl _ _ _ rfl _ rfl _ rfl _ _ p5 (by rw [bigC_size]; kernel_rfl) (by rw [bigC_size, bigC_size]) (fnC_one _) ?_))
            go_roundg (m - l)
            case rel =>
              have h1 := HM.out
              exact ⟨l, m, hll, HLT, h1.1, by show _ ≤ _; have := hh66.out; omega, by show _ ≤ _; omega, s.row l5 _, p4.rowOther h45 _, p5.row _⟩
            case measure => have h1 := HM.out; have h2 := hk.out; omega
          · have hd : decide (n < m * m) = false := decide_eq_false hlt
            have HLT := Lib.hid (Nat.le_of_not_lt hlt)
            clear hlt
            go_upto_region 12 with (go_at_call 130; refine (less_any n (m * m) _ HN17.out HM17.out).mono ?_; rintro e w9 ⟨rfl, hb⟩)
            replace s := s.below hb
            replace p4 := p4.below hb p4.lt
            replace p5 := p5.below hb p5.lt
            replace p7 := p7.below hb p7.lt
            clear hb hd
            go_wp2_with (first | (refine wpList_load_row rfl _ _ rfl _ rfl _ _ _ _ p7 Tryz.underlying123 rfl (by rw [bigC_size]; kernel_rfl) ?_) | (refine wpList_store_row rfl _ _ _ rfl _ rfl _ rfl _ _ s.2.2.1 (by rw [bigC_size]; kernel_rfl) (by rw [bigC_size, bigC_size]) (fnC_one _) ?_))
            go_roundg (h - m)
            case rel =>
              have h1 := HM.out
              exact ⟨m, h, HLT, hhh, h1.2, hh66, by show _ ≤ _; omega, s.setL _, p4.rowOther (by omega) _, p5.rowOther (by omega) _⟩
            case measure => have h1 := HM.out; have h2 := hk.out; omega
        · have hd : decide (l + 1 < h) = false := decide_eq_false hlt
          have HE := Lib.hid (show isqrt n = l by
            have h1 := hlh.out
            have h2 := hhh.out
            obtain rfl : h = l + 1 := by omega
            exact isqrt_eq (Nat.lt_trans HN.out (by decide)) hll.out h2)
          clear hlt
          go_upto_region 13 with (go_at_call 130; refine (less_any (l + 1) h _ HL17.out HH17.out).mono ?_; rintro e w5 ⟨rfl, hb⟩)
          replace s := s.below hb
          clear hb hd p4 p5
          have H1 := Lib.hid (bigC_size l)
          go_wp2_with (first | (refine wpList_load_row rfl _ _ rfl _ rfl _ _ _ _ s.2.2.1 Tryz.underlying123 rfl (by rw [bigC_size]; kernel_rfl) ?_) | (refine wpList_store_row rfl _ _ _ rfl _ rfl _ rfl _ _ s.2.1 (by rw [bigC_size]; kernel_rfl) (by rw [bigC_size, bigC_size]) (fnC_one _) ?_))
          refine bodyPost_ret (results_cell_row rfl _ _ _ _ _ _ _ rfl (s.2.1.row _) Tryz.underlying123 rfl (by rw [H1.out]; kernel_rfl)) rfl ⟨?_, Below.setRow s.2.2.2 (by omega) _⟩
          rw [HE.out]
end Go.Proofs.YtjnocbjngojigaaGreat
namespace Go.Proofs.YtjnocbjngojigaaGreat
open Go.RowKit PM Dt
set_option maxRecDepth 100000 in
set_option maxHeartbeats 2000000 in
theorem rhypot_any (xs : List Int) (v : Value) (w : World) (hv : Ints w v xs) (hx : ∀ k, k < xs.length → I64 (xs.getD k 0)) :
    Calls Tryz.prog 90 #[v] w fun e w' => e = .returned (.tuple #[.int .i64 (if 8 < xs.length then 0 else fitV (hypQ xs)), .int .i64 (if 8 < xs.length then 2 else fitE (hypQ xs))]) ∧ Below w.heap.size w w' := by
  have hlenI : ∀ a c n, v = .slice a n c → n = xs.length := by
    rintro a c n rfl
    rcases hv with ⟨h, a', c', hh⟩ | ⟨_, b, off, cap, hh, _⟩
    · cases hh; rw [h]; rfl
    · cases hh; rfl
  obtain ⟨va, vc, n, rfl⟩ : ∃ a c n, v = .slice a n c := by
    rcases hv with ⟨h, a', c', hh⟩ | ⟨_, b, off, cap, hh, _⟩
    · exact ⟨_, _, _, hh⟩
    · exact ⟨_, _, _, hh⟩
  have hn := hlenI _ _ _ rfl
  clear hlenI
  by_cases h8 : 8 < n
  · rw [if_pos (hn ▸ h8), if_pos (hn ▸ h8)]
    have hd : decide (8 < n) = true := decide_eq_true h8
    have hd' : decide ((8 : Int) < (n : Int)) = true := decide_eq_true (by omega)
    clear hv hx hn
    go_enter Tryz.func90, Tryz.ntmps90
    go_wp2_with (fail)
    go_ret2
    exact ⟨rfl, Below.refl _ _⟩
  · rw [if_neg (hn ▸ h8), if_neg (hn ▸ h8)]
    have hd : decide (8 < n) = false := decide_eq_false h8
    have hd' : decide ((8 : Int) < (n : Int)) = false := decide_eq_false (by omega)
    have HN := Lib.hid hn
    have HV := Lib.hid hv
    have HX := Lib.hid hx
    have HTOT := Lib.hid (sqs_take_le xs)
    have HTOT2 := Lib.hid (sqs_le xs 8 (by omega) hx)
    have hn8 : n ≤ 8 := by omega
    clear hn hv hx h8
    go_enter Tryz.func90, Tryz.ntmps90
    go_wp2_with (fail)
    rw [zero_eq_big]
    go_loopg [5] n (fun g iv wr => ∃ k : Nat, g + k = n ∧ iv = .int .i64 k ∧ blk wr w.heap.size (bigC (sqs (xs.take k))) 123 ∧ Below w.heap.size w wr)
    case atStart => exact ⟨0, rfl, rfl, by rw [List.take_zero, sqs_nil]; exact blk.new _ _ _, by go_grown⟩
    case round =>
      obtain ⟨k, hk, rfl, p, hB⟩ := hrel
      by_cases hkn : k < n
      · have hdk : decide ((k : Int) < (n : Int)) = true := decide_eq_true (by omega)
        have hdk' : decide (k < n) = true := decide_eq_true (by omega)
        obtain ⟨b, off, rfl, hbw, hcell⟩ : ∃ b off, va = some ⟨b, off, none⟩ ∧ b < w.heap.size ∧ w.cell? ⟨b, off + k, none⟩ = some (.int .i64 (xs.getD k 0)) := by
          rcases HV.out with ⟨h, _⟩ | ⟨_, b, off, cap, hh, hbw, hc⟩
          · have := HN.out; rw [h] at this; simp at this; omega
          · cases hh; exact ⟨b, off, rfl, hbw, hc k hkn⟩
        have hI := HX.out k (by have := HN.out; omega)
        have hsx := sqs_take_succ xs k (by have := HN.out; omega)
        obtain ⟨x, hxx⟩ : ∃ x, x = xs.getD k 0 := ⟨_, rfl⟩
        rw [← hxx] at hI hsx hcell
        obtain ⟨A, hA⟩ : ∃ A, A = x.natAbs := ⟨_, rfl⟩
        rw [← hA] at hsx
        obtain ⟨S, hS⟩ : ∃ S, S = sqs (xs.take k) := ⟨_, rfl⟩
        rw [← hS] at hsx p
        have HSX := Lib.hid hsx
        have HA := Lib.hid hA
        have HA8 := Lib.hid (show A < 65536 ^ 8 by rw [hA]; have := hI.1; have := hI.2; omega)
        have HI1 := Lib.hid hI.1
        have HI2 := Lib.hid hI.2
        have HCELL := Lib.hid hcell
        have HBW := Lib.hid hbw
        have hw3 : IntKind.i64.wrap ((k : Int) + 1) = ((k + 1 : Nat) : Int) := by rw [IntKind.wrap_i64]; omega
        have cellIn : Hid (∀ w1, Below w.heap.size w w1 → w1.cell? ⟨b, off + k, none⟩ = some (.int .i64 x)) := by
          intro w1 h1
          rw [h1.cell (p := ⟨b, off + k, none⟩) HBW.out]; exact HCELL.out
        clear hI hsx hcell hxx hA hS hbw
        go_upto_region 7 with (fail)
        refine wp_region_X 13 (by kernel_rfl) (by kernel_rfl) ?_
        replace p := p.drew
        replace hB : Below w.heap.size w wr.drew := hB.drew
        generalize wr.drew = wo at *
        refine wpX_take 0 (.agg (bigC S)) rfl rfl (by kernel_rfl) (fun w1 h1 => detR_row _ _ rfl _ rfl _ _ _ (p.below h1 p.lt) Tryz.underlying123 rfl (by rw [bigC_size]; kernel_rfl) rfl) ?_
        simp only [Act.put, sIT, sCZ, sCS]
        refine wpX_take 1 (.slice (some ⟨b, off, none⟩) n vc) rfl rfl (by kernel_rfl) (fun w1 h1 => by go_simp; exact ⟨rfl, Below.refl _ _⟩) ?_
        simp only [Act.put, sIT, sCZ, sCS]
        refine wpX_take 2 (.int .i64 k) rfl rfl (by kernel_rfl) (fun w1 h1 => by go_simp; exact ⟨rfl, Below.refl _ _⟩) ?_
        simp only [Act.put, sIT, sCZ, sCS]
        refine wpX_take 3 (.pointer (some ⟨b, off + k, none⟩)) rfl rfl (by kernel_rfl) (fun w1 h1 => by go_simp; exact ⟨rfl, Below.refl _ _⟩) ?_
        simp only [Act.put, sIT, sCZ, sCS]
        refine wpX_take 4 (.int .i64 x) rfl rfl (by kernel_rfl) (fun w1 h1 => by have hc := cellIn.out w1 (hB.trans (h1.mono (by have := p.lt; omega))); go_simp; exact ⟨rfl, Below.refl _ _⟩) ?_
        simp only [Act.put, sIT, sCZ, sCS]
        refine wpX_take 5 (.agg (bigC A)) rfl rfl (by kernel_rfl) (fun w1 h1 => ?_) ?_
        · go_simp
          refine (abs_any x _ HI1.out HI2.out).mono ?_
          rintro e w2 ⟨rfl, h2⟩
          exact ⟨by rw [← HA.out], h2⟩
        simp only [Act.put, sIT, sCZ, sCS]
        refine wpX_take 6 (.slice (some ⟨b, off, none⟩) n vc) rfl rfl (by kernel_rfl) (fun w1 h1 => by go_simp; exact ⟨rfl, Below.refl _ _⟩) ?_
        simp only [Act.put, sIT, sCZ, sCS]
        refine wpX_take 7 (.int .i64 k) rfl rfl (by kernel_rfl) (fun w1 h1 => by go_simp; exact ⟨rfl, Below.refl _ _⟩) ?_
        simp only [Act.put, sIT, sCZ, sCS]
        refine wpX_take 8 (.pointer (some ⟨b, off + k, none⟩)) rfl rfl (by kernel_rfl) (fun w1 h1 => by go_simp; exact ⟨rfl, Below.refl _ _⟩) ?_
        simp only [Act.put, sIT, sCZ, sCS]
        refine wpX_take 9 (.int .i64 x) rfl rfl (by kernel_rfl) (fun w1 h1 => by have hc := cellIn.out w1 (hB.trans (h1.mono (by have := p.lt; omega))); go_simp; exact ⟨rfl, Below.refl _ _⟩) ?_
        simp only [Act.put, sIT, sCZ, sCS]
        refine wpX_take 10 (.agg (bigC A)) rfl rfl (by kernel_rfl) (fun w1 h1 => ?_) ?_
        · go_simp
          refine (abs_any x _ HI1.out HI2.out).mono ?_
          rintro e w2 ⟨rfl, h2⟩
          exact ⟨by rw [← HA.out], h2⟩
        simp only [Act.put, sIT, sCZ, sCS]
        refine wpX_take 11 (.agg (bigC (A * A))) rfl rfl (by kernel_rfl) (fun w1 h1 => ?_) ?_
        · go_simp
          refine (times_any A A _ HA8.out HA8.out).mono ?_
          rintro e w2 ⟨rfl, h2⟩
          exact ⟨rfl, h2⟩
        simp only [Act.put, sIT, sCZ, sCS]
        refine wpX_take 12 (.agg (bigC (S + A * A))) rfl rfl (by kernel_rfl) (fun w1 h1 => ?_) ?_
        · go_simp
          refine (add_any S (A * A) _).mono ?_
          rintro e w2 ⟨rfl, h2⟩
          exact ⟨rfl, h2⟩
        simp only [Act.put, sIT, sCZ, sCS]
        refine wpX_tail (by kernel_rfl) (fun wt ht => ?_)
        simp only [List.drop_succ_cons, List.drop_zero]
        replace hB := hB.trans (ht.mono (by have := p.lt; omega))
        replace p := p.below ht p.lt
        clear ht
        go_wp2_with (refine wpList_store_row rfl _ _ _ rfl _ rfl _ rfl _ _ p (by rw [bigC_size]; kernel_rfl) (by rw [bigC_size, bigC_size]) (fnC_one _) ?_)
        go_roundg (n - (k + 1))
        case rel => exact ⟨k + 1, by omega, rfl, by rw [HSX.out]; exact p.row _, Below.setRow hB (Nat.le_refl _) _⟩
        case measure => omega
      · obtain rfl : k = n := by omega
        have hdk : decide ((k : Int) < (k : Int)) = false := decide_eq_false (by omega)
        have hdk' : decide (k < k) = false := decide_eq_false (by omega)
        have hs2 : sqs (xs.take k) = sqs xs := by rw [HN.out, List.take_length]
        rw [hs2] at p
        have HR := Lib.hid (show sqs xs < 5444517870735015415413993718908291383296 from Nat.lt_of_le_of_lt HTOT2.out (by decide))
        obtain ⟨r, hr⟩ : ∃ r, r = isqrt (sqs xs) := ⟨_, rfl⟩
        have HRR := Lib.hid hr
        have HR17 := Lib.hid (show r < 65536 ^ 17 by
          rw [hr]
          exact (isqrt_lt (Nat.lt_trans HR.out (by decide))).2 (Nat.lt_trans HR.out (by decide)))
        have HQ : Hid (hypQ xs = sgn false r) := by show hypQ xs = _; unfold hypQ sgn; rw [← hr]; rfl
        clear hs2 hr
        go_wp2_with (first
          | (refine wpList_load_row rfl _ _ rfl _ rfl _ _ _ _ p Tryz.underlying123 rfl (by rw [bigC_size]; kernel_rfl) ?_)
          | (go_at_call 133; refine (rootB_any (sqs xs) _ HR.out).mono ?_; rintro e w1 ⟨rfl, hb⟩; rw [← HRR.out]; replace hB := hB.trans (hb.mono (by have := p.lt; omega)); clear hb)
          | (go_at_call 94; refine (rsigned_any r false _ HR17.out).mono ?_; rintro e w1 ⟨rfl, hb⟩; replace hB := hB.trans (hb.mono hB.size); clear hb))
        go_ret2
        exact ⟨ret2I (by rw [HQ.out]) (by rw [HQ.out]), hB⟩
end Go.Proofs.YtjnocbjngojigaaGreat
namespace Go.Proofs.YtjnocbjngojigaaGreat
open Go.RowKit PM Dt
def vfn (f : Nat → Int) : Array Value := #[.int .i64 (f 0), .int .i64 (f 1), .int .i64 (f 2)]
theorem vfn_size (f : Nat → Int) : (vfn f).size = 3 := rfl
theorem vfn_one (f : Nat → Int) : (vfn f).all (·.oneCell') = true := by simp [vfn, Value.oneCell']
theorem vfn_get (f : Nat → Int) {i : Nat} (h : i < 3) : (vfn f)[i]? = some (.int .i64 (f i)) := by
  have : i = 0 ∨ i = 1 ∨ i = 2 := by omega
  rcases this with rfl | rfl | rfl <;> rfl
theorem vfn_congr {f g : Nat → Int} (h : ∀ i, i < 3 → f i = g i) : vfn f = vfn g := by
  unfold vfn; rw [h 0 (by omega), h 1 (by omega), h 2 (by omega)]
theorem vfn_set {f g : Nat → Int} {i : Nat} {v : Int} (h : i < 3) (hx : v = g i) (hg : ∀ j, j < 3 → j ≠ i → f j = g j) : (vfn f).setIfInBounds i (.int .i64 v) = vfn g := by
  subst hx
  have : i = 0 ∨ i = 1 ∨ i = 2 := by omega
  rcases this with rfl | rfl | rfl
  · unfold vfn; rw [hg 1 (by omega) (by omega), hg 2 (by omega) (by omega)]; rfl
  · unfold vfn; rw [hg 0 (by omega) (by omega), hg 2 (by omega) (by omega)]; rfl
  · unfold vfn; rw [hg 0 (by omega) (by omega), hg 1 (by omega) (by omega)]; rfl
theorem zero_vec : #[Value.int .i64 0, .int .i64 0, .int .i64 0] = vfn (fun _ => 0) := rfl
def vb (a : Int) : Bool := decide (-1099511627776 ≤ a) && decide (a ≤ 1099511627776)
theorem vb_iff (a : Int) : vb a = true ↔ (-1099511627776 ≤ a ∧ a ≤ 1099511627776) := by unfold vb; rw [Bool.and_eq_true, decide_eq_true_eq, decide_eq_true_eq]
def okV (f : Nat → Int) : Bool := vb (f 0) && (vb (f 1) && vb (f 2))
theorem okV_iff (f : Nat → Int) : okV f = true ↔ ∀ i, i < 3 → vb (f i) = true := by
  unfold okV
  rw [Bool.and_eq_true, Bool.and_eq_true]
  constructor
  · rintro ⟨h0, h1, h2⟩ i hi
    have : i = 0 ∨ i = 1 ∨ i = 2 := by omega
    rcases this with rfl | rfl | rfl <;> assumption
  · intro h; exact ⟨h 0 (by omega), h 1 (by omega), h 2 (by omega)⟩
theorem okV_no {f : Nat → Int} {i : Nat} (h : i < 3) (hb : vb (f i) = false) : okV f = false := by
  rw [Bool.eq_false_iff]; intro h2
  have := (okV_iff f).1 h2 i h
  rw [hb] at this; cases this
attribute [irreducible] vfn
theorem ints3 {w : World} {b : Nat} {f : Nat → Int} {t : TypeId} (h : blk w b (vfn f) t) : Ints w (.slice (some ⟨b, 0, none⟩) 3 3) [f 0, f 1, f 2] :=
  Or.inr ⟨by simp, b, 0, 3, rfl, h.lt, fun k hk => by
    have hk : k < 3 := hk
    rw [Nat.zero_add]
    refine (h.cellIs (vfn_get f hk)).trans ?_
    have : k = 0 ∨ k = 1 ∨ k = 2 := by omega
    rcases this with rfl | rfl | rfl <;> rfl⟩
theorem list_I3 {f : Nat → Int} (h : ∀ i, i < 3 → I64 (f i)) : ∀ k, k < [f 0, f 1, f 2].length → I64 ([f 0, f 1, f 2].getD k 0) := by
  intro k hk
  have hk : k < 3 := hk
  have : k = 0 ∨ k = 1 ∨ k = 2 := by omega
  rcases this with rfl | rfl | rfl
  · exact h 0 (by omega)
  · exact h 1 (by omega)
  · exact h 2 (by omega)
theorem results_vec {P : Program} {fn : Func} {p u : Tmp} {ty : TypeId} (h : fn.results = #[.cell p ty, .tmp u]) (tmps : Array Value) (w : World) (g : Nat) (t : TypeId) (cs : Array Value) (fr : Nat × Nat) (d : TypeDesc)
    (hp : tmps.getD p undef = .pointer (some ⟨g, 0, none⟩)) (hg : w.heap[g]? = some (.cells cs t fr))
    (hu : P.underlying ty = some d) (hd : (match d with | .struct _ | .array _ _ => true | _ => false) = true) (hi : (P.info? ty).map (·.size) = some cs.size) :
    (results fn tmps).run P w = .ok (.tuple #[.agg cs, tmps.getD u undef]) w := by
  rw [results_cell_tmp h]
  have hp' : tmps[p]?.getD undef = .pointer (some ⟨g, 0, none⟩) := by simpa using hp
  simp [hp', asAddr, run_loadVar_row w g t ty cs fr d hg hu hd hi, Result.andThen]
set_option maxRecDepth 100000 in
theorem within_any (a : Int) (w : World) : Calls Tryz.prog 124 #[.int .i64 a] w fun e w' => e = .returned (.bool (vb a)) ∧ w = w' := by
  by_cases h1 : -1099511627776 ≤ a
  · have d1 : decide (-1099511627776 ≤ a) = true := decide_eq_true h1
    by_cases h2 : a ≤ 1099511627776
    · have d2 : decide (a ≤ 1099511627776) = true := decide_eq_true h2
      have hv : vb a = true := by unfold vb; rw [d1, d2]; rfl
      rw [hv]
      clear h1 h2 hv
      go_enter Tryz.func124, Tryz.ntmps124
      go_wp2_with (fail)
      go_ret
      exact ⟨rfl, rfl⟩
    · have d2 : decide (a ≤ 1099511627776) = false := decide_eq_false h2
      have hv : vb a = false := by unfold vb; rw [d1, d2]; rfl
      rw [hv]
      clear h1 h2 hv
      go_enter Tryz.func124, Tryz.ntmps124
      go_wp2_with (fail)
      go_ret
      exact ⟨rfl, rfl⟩
  · have d1 : decide (-1099511627776 ≤ a) = false := decide_eq_false h1
    have hv : vb a = false := by unfold vb; rw [d1]; rfl
    rw [hv]
    clear h1 hv
    go_enter Tryz.func124, Tryz.ntmps124
    go_wp2_with (fail)
    go_ret
    exact ⟨rfl, rfl⟩
set_option maxRecDepth 100000 in
theorem valid_any (f : Nat → Int) (w : World) : Calls Tryz.prog 80 #[.agg (vfn f)] w fun e w' => e = .returned (.bool (okV f)) ∧ Below w.heap.size w w' := by
  have W0 := Lib.hid (fun w => within_any (f 0) w)
  have W1 := Lib.hid (fun w => within_any (f 1) w)
  have W2 := Lib.hid (fun w => within_any (f 2) w)
  have p : blk (w.alloc (.cells (vfn f) 27)) w.heap.size (vfn f) 27 := blk.new _ _ _
  have hB : Below w.heap.size w (w.alloc (.cells (vfn f) 27)) := by go_grown
  have c0 : (w.alloc (.cells (vfn f) 27)).cell? ⟨w.heap.size, 0, none⟩ = some (.int .i64 (f 0)) := p.cellIs (vfn_get f (by omega))
  have c1 : (w.alloc (.cells (vfn f) 27)).cell? ⟨w.heap.size, 1, none⟩ = some (.int .i64 (f 1)) := p.cellIs (vfn_get f (by omega))
  have c2 : (w.alloc (.cells (vfn f) 27)).cell? ⟨w.heap.size, 2, none⟩ = some (.int .i64 (f 2)) := p.cellIs (vfn_get f (by omega))
  unfold okV
  generalize vb (f 0) = b0 at *
  generalize vb (f 1) = b1 at *
  generalize vb (f 2) = b2 at *
  cases b0 <;> cases b1 <;> cases b2
  all_goals
    go_enter Tryz.func80, Tryz.ntmps80
    go_wp2_with (first
      | (go_at_call 124; with_reducible refine (W0.out _).mono ?_; rintro e w1 ⟨rfl, rfl⟩)
      | (go_at_call 124; with_reducible refine (W1.out _).mono ?_; rintro e w1 ⟨rfl, rfl⟩)
      | (go_at_call 124; with_reducible refine (W2.out _).mono ?_; rintro e w1 ⟨rfl, rfl⟩))
    go_ret
    exact ⟨rfl, hB⟩
set_option maxRecDepth 100000 in
set_option maxHeartbeats 1000000 in
theorem rvalid_any (f : Nat → Int) (w : World) : Calls Tryz.prog 88 #[.agg (vfn f)] w fun e w' => e = .returned (.bool (okV f)) ∧ Below w.heap.size w w' := by
  go_enter Tryz.func88, Tryz.ntmps88
  go_wp2_with (fail)
  go_loopg [3] 3 (fun g iv wr => ∃ k : Nat, g + k = 3 ∧ iv = .int .i64 k ∧ Hid (∀ j, j < k → vb (f j) = true) ∧ blk wr w.heap.size (vfn f) 27 ∧ Below w.heap.size w wr)
  case atStart => exact ⟨0, rfl, rfl, fun j hj => by omega, blk.new _ _ _, by go_grown⟩
  case round =>
    obtain ⟨k, hk, rfl, hall, p, hB⟩ := hrel
    by_cases hkn : k < 3
    · have hdk : decide ((k : Int) < 3) = true := decide_eq_true (by omega)
      have hdk' : decide (k < 3) = true := decide_eq_true (by omega)
      have hw3 : IntKind.i64.wrap ((k : Int) + 1) = ((k + 1 : Nat) : Int) := by rw [IntKind.wrap_i64]; omega
      have ck : wr.cell? ⟨w.heap.size, k, none⟩ = some (.int .i64 (f k)) := p.cellIs (vfn_get f hkn)
      by_cases h1 : -1099511627776 ≤ f k
      · have d1 : decide (f k < -1099511627776) = false := decide_eq_false (by omega)
        by_cases h2 : f k ≤ 1099511627776
        · have d2 : decide (1099511627776 < f k) = false := decide_eq_false (by omega)
          have HV := Lib.hid ((vb_iff _).2 ⟨h1, h2⟩)
          clear h1 h2
          go_wp2_with (fail)
          go_roundg (3 - (k + 1))
          case rel =>
            refine ⟨k + 1, by omega, rfl, fun j hj => ?_, p, hB⟩
            by_cases e : j = k
            · subst e; exact HV.out
            · exact hall.out j (by omega)
          case measure => omega
        · have d2 : decide (1099511627776 < f k) = true := decide_eq_true (by omega)
          have HV := Lib.hid (show okV f = false from okV_no hkn (by rw [Bool.eq_false_iff]; intro h; have := (vb_iff _).1 h; omega))
          clear h1 h2
          go_wp2_with (fail)
          go_ret
          exact ⟨by rw [HV.out]; rfl, hB⟩
      · have d1 : decide (f k < -1099511627776) = true := decide_eq_true (by omega)
        have HV := Lib.hid (show okV f = false from okV_no hkn (by rw [Bool.eq_false_iff]; intro h; have := (vb_iff _).1 h; omega))
        clear h1
        go_wp2_with (fail)
        go_ret
        exact ⟨by rw [HV.out]; rfl, hB⟩
    · obtain rfl : k = 3 := by omega
      have HV := Lib.hid ((okV_iff f).2 hall.out)
      go_wp2_with (fail)
      go_ret
      exact ⟨by rw [HV.out]; rfl, hB⟩
end Go.Proofs.YtjnocbjngojigaaGreat
namespace Go.Proofs.YtjnocbjngojigaaGreat
open Go.RowKit PM Dt
theorem wpList_load_rowG {P : Program} {ops : Array Oper} {rest : List Oper} {o : Oper} {a : Act} {w : World} {Q : Exit → Act → World → Prop} (hw : Region.wanted o (yielded ops a.tmps) = true) (ty : TypeId) (x : Operand) (ho : o.op = .load ty x)
    (g : Nat) (hx : a.eval x = .pointer (some ⟨g, 0, none⟩)) (t : TypeId) (cs : Array Value) (fr : Nat × Nat) (d : TypeDesc) (hg : w.heap[g]? = some (.cells cs t fr))
    (hu : P.underlying ty = some d) (hd : (match d with | .struct _ | .array _ _ => true | _ => false) = true) (hi : (P.info? ty).map (·.size) = some cs.size)
    (h : wpList P ops Q rest (a.put o.dst (.agg cs)) w) : wpList P ops Q (o :: rest) a w :=
  wpList_step fun K hK => by rw [if_pos hw]; exact wp_load_row ty x ho g hx t cs fr d hg hu hd hi (hK _ _ h)
theorem vb_I {a : Int} (h : vb a = true) : I64 a := by
  have := (vb_iff a).1 h
  exact ⟨by omega, by omega⟩
theorem dotOK {S : Int} (h1 : -1237940039285380274899124224 ≤ S) (h2 : S ≤ 1237940039285380274899124224) : fitV (rnd S) = rnd S ∧ fitE (rnd S) = 0 := fit_of (by unfold rnd; omega) (by unfold rnd; omega)
theorem vb_prod {a b : Int} (ha : vb a = true) (hb : vb b = true) : -1208925819614629174706176 ≤ a * b ∧ a * b ≤ 1208925819614629174706176 := by
  have h1 := (vb_iff a).1 ha
  have h2 := (vb_iff b).1 hb
  have := bmul (P := 1099511627776) (R := 1099511627776) h1.1 h1.2 h2.1 h2.2
  exact this
def d3 (f g : Nat → Int) : Int := dotS [f 0, f 1, f 2] [g 0, g 1, g 2]
theorem d3_fit {f g : Nat → Int} (hf : okV f = true) (hg : okV g = true) : dotV [f 0, f 1, f 2] [g 0, g 1, g 2] = rnd (d3 f g) ∧ dotE [f 0, f 1, f 2] [g 0, g 1, g 2] = 0 := by
  have a0 := vb_prod ((okV_iff f).1 hf 0 (by omega)) ((okV_iff g).1 hg 0 (by omega))
  have a1 := vb_prod ((okV_iff f).1 hf 1 (by omega)) ((okV_iff g).1 hg 1 (by omega))
  have a2 := vb_prod ((okV_iff f).1 hf 2 (by omega)) ((okV_iff g).1 hg 2 (by omega))
  have e : dotS [f 0, f 1, f 2] [g 0, g 1, g 2] = f 0 * g 0 + (f 1 * g 1 + (f 2 * g 2 + 0)) := by rw [dotS_cons, dotS_cons, dotS_cons, dotS_nil]
  have := dotOK (S := dotS [f 0, f 1, f 2] [g 0, g 1, g 2]) (by rw [e]; omega) (by rw [e]; omega)
  unfold dotV dotE d3
  rw [if_neg (by simp), if_neg (by simp)]
  exact this
theorem okV_I {f : Nat → Int} (hf : okV f = true) : ∀ i, i < 3 → I64 (f i) := fun i hi => vb_I ((okV_iff f).1 hf i hi)
theorem rdot3_any (f g : Nat → Int) (b c : Nat) (w : World) (hf : okV f = true) (hg : okV g = true) (p : blk w b (vfn f) 27) (q : blk w c (vfn g) 27) :
    Calls Tryz.prog 153 #[.slice (some ⟨b, 0, none⟩) 3 3, .slice (some ⟨c, 0, none⟩) 3 3] w fun e w' => e = .returned (.tuple #[.int .i64 (rnd (d3 f g)), .int .i64 0]) ∧ Below w.heap.size w w' :=
  (rdot_any [f 0, f 1, f 2] [g 0, g 1, g 2] _ _ w (ints3 p) (ints3 q) (list_I3 (okV_I hf)) (list_I3 (okV_I hg))).mono fun e w' h => ⟨h.1.trans (by rw [(d3_fit hf hg).1, (d3_fit hf hg).2]), h.2⟩
end Go.Proofs.YtjnocbjngojigaaGreat
namespace Go.Proofs.YtjnocbjngojigaaGreat
open Go.RowKit PM Dt
def goodE (x er : Nat → Int) : Bool := (er 0 == 0 && vb (x 0)) && ((er 1 == 0 && vb (x 1)) && (er 2 == 0 && vb (x 2)))
theorem goodE_iff (x er : Nat → Int) : goodE x er = true ↔ ∀ i, i < 3 → er i = 0 ∧ vb (x i) = true := by
  unfold goodE
  simp only [Bool.and_eq_true, beq_iff_eq]
  constructor
  · rintro ⟨h0, h1, h2⟩ i hi
    have : i = 0 ∨ i = 1 ∨ i = 2 := by omega
    rcases this with rfl | rfl | rfl <;> assumption
  · intro h; exact ⟨h 0 (by omega), h 1 (by omega), h 2 (by omega)⟩
theorem goodE_no {x er : Nat → Int} {i : Nat} (h : i < 3) (hb : ¬ (er i = 0 ∧ vb (x i) = true)) : goodE x er = false := by
  rw [Bool.eq_false_iff]; intro h2; exact hb ((goodE_iff x er).1 h2 i h)
def pre3 (x : Nat → Int) (k : Nat) : Nat → Int := fun j => if j < k then x j else 0
def eachF (x er : Nat → Int) : Nat → Int := if goodE x er then x else fun _ => 0
def eachE (x er : Nat → Int) : Int := if goodE x er then 0 else 7
set_option maxRecDepth 100000 in
theorem each_no (v : Value) (w : World) : Calls Tryz.prog 82 #[.bool false, v] w fun e w' => e = .returned (.tuple #[.agg (vfn fun _ => 0), .int .i64 2]) ∧ Below w.heap.size w w' := by
  go_enter Tryz.func82, Tryz.ntmps82
  go_upto_region 2 with (fail)
  rw [zero_vec]
  have p : blk ((w.alloc (.cells (vfn fun _ => 0) 27)).alloc (.cells (vfn fun _ => 0) 27)) w.heap.size (vfn fun _ => 0) 27 := (blk.new _ _ _).alloc _
  have q : blk ((w.alloc (.cells (vfn fun _ => 0) 27)).alloc (.cells (vfn fun _ => 0) 27)) (w.heap.size + 1) (vfn fun _ => 0) 27 := blk.new' (by simp)
  have hB : Below w.heap.size w ((w.alloc (.cells (vfn fun _ => 0) 27)).alloc (.cells (vfn fun _ => 0) 27)) := by go_grown
  generalize (w.alloc (.cells (vfn fun _ => 0) 27)).alloc (.cells (vfn fun _ => 0) 27) = w0 at *
  go_wp2_with (first | (refine wpList_load_rowG ?hw _ _ rfl _ rfl _ _ _ _ q Tryz.underlying27 rfl ?hi ?_; (case hw => (first | rfl | (simp [Region.wanted, yielded]; done))); (case hi => (rw [vfn_size]; kernel_rfl))) | (refine wpList_store_row rfl _ _ _ rfl _ rfl _ rfl _ _ p (by rw [vfn_size]; kernel_rfl) (by simp only [vfn_size]) (vfn_one _) ?_))
  refine bodyPost_ret (results_vec rfl _ _ _ _ _ _ _ rfl (p.row (vfn (fun _ => 0))) Tryz.underlying27 rfl (by rw [vfn_size]; kernel_rfl)) rfl ?_; refine ⟨?_, Below.setRow hB (Nat.le_refl _) _⟩
  rfl
end Go.Proofs.YtjnocbjngojigaaGreat
namespace Go.Proofs.YtjnocbjngojigaaGreat
open Go.RowKit PM Dt
def mulV (a b : Int) : Int := ratioV a b 1073741824
theorem fitV_I (q : Int) : I64 (fitV q) := by
  unfold fitV inI I64
  split
  · rename_i h; simp at h; omega
  · omega
def psum (y : Int) (t : Nat → Int) : Nat → Int
  | 0 => 0
  | k + 1 => mulV y (wrap64 (t (4 - k) - psum y t k))
attribute [irreducible] psum mulV
end Go.Proofs.YtjnocbjngojigaaGreat
namespace Go.Proofs.YtjnocbjngojigaaGreat
open Go.RowKit PM Dt
theorem list_J2 {a b : Int} (ha : I64 a) (hb : I64 b) : ∀ k, k < [a, b].length → I64 ([a, b].getD k 0) := by
  intro k hk
  rcases k with _ | _ | k
  · exact ha
  · exact hb
  · simp at hk; omega
theorem intsJ2 {w : World} {b : Nat} {a c : Int} {t : TypeId} (h : blk w b #[.int .i64 a, .int .i64 c] t) : Ints w (.slice (some ⟨b, 0, none⟩) 2 2) [a, c] :=
  Or.inr ⟨by simp, b, 0, 2, rfl, h.lt, fun k hk => by
    rcases k with _ | _ | k
    · exact h.cellIs rfl
    · exact h.cellIs rfl
    · simp at hk; omega⟩
theorem vb_neg {a : Int} (h : vb a = true) : vb (-a) = true := (vb_iff _).2 (by have := (vb_iff a).1 h; omega)
set_option maxRecDepth 100000 in
set_option maxHeartbeats 1000000 in
theorem rd_any (f g : Nat → Int) (w : World) (hf : okV f = true) (hg : okV g = true) : Calls Tryz.prog 147 #[.agg (vfn f), .agg (vfn g)] w fun e w' => e = .returned (.int .i64 (rnd (d3 f g))) ∧ Below w.heap.size w w' := by
  have D := Lib.hid (fun x y w p q => rdot3_any f g x y w hf hg p q)
  clear hf hg
  obtain ⟨X, hX⟩ : ∃ X, X = rnd (d3 f g) := ⟨_, rfl⟩
  rw [← hX] at D ⊢
  clear hX
  go_enter Tryz.func147, Tryz.ntmps147
  go_upto_region 1 with (fail)
  have p : blk ((w.alloc (.cells (vfn f) 27)).alloc (.cells (vfn g) 27)) w.heap.size (vfn f) 27 := (blk.new _ _ _).alloc _
  have q : blk ((w.alloc (.cells (vfn f) 27)).alloc (.cells (vfn g) 27)) (w.heap.size + 1) (vfn g) 27 := blk.new' (by simp)
  have hB : Below w.heap.size w ((w.alloc (.cells (vfn f) 27)).alloc (.cells (vfn g) 27)) := by go_grown
  generalize (w.alloc (.cells (vfn f) 27)).alloc (.cells (vfn g) 27) = w0 at *
  refine wp_region_Y 99 8 rfl (by kernel_rfl) ?_
  replace p := p.drew
  replace q := q.drew
  replace hB : Below w.heap.size w w0.drew := hB.drew
  generalize w0.drew = wo at *
  refine wpY_takeB 0 (.slice (some ⟨w.heap.size, 0, none⟩) 3 3) rfl rfl (by kernel_rfl) (fun w1 => by go_simp; exact ⟨rfl, Below.refl _ _⟩) ?_
  simp only [Act.put, sIT, sCZ, sCS]
  refine wpY_takeB 1 (.slice (some ⟨w.heap.size + 1, 0, none⟩) 3 3) rfl rfl (by kernel_rfl) (fun w1 => by go_simp; exact ⟨rfl, Below.refl _ _⟩) ?_
  simp only [Act.put, sIT, sCZ, sCS]
  refine wpY_takeA 2 (.tuple #[.int .i64 X, .int .i64 0]) rfl rfl (by kernel_rfl) (by kernel_rfl) (fun w1 h1 => ?_) ?_
  · go_simp
    refine (D.out _ _ _ (p.below h1 p.lt) (q.below h1 q.lt)).mono ?_
    rintro e w2 ⟨rfl, h2⟩
    exact ⟨rfl, h2⟩
  simp only [Act.put, sIT, sCZ, sCS]
  refine wpY_takeB 3 (.tuple #[.int .i64 X, .int .i64 0]) rfl rfl (by kernel_rfl) (fun w1 => by go_simp; exact ⟨rfl, Below.refl _ _⟩) ?_
  simp only [Act.put, sIT, sCZ, sCS]
  refine wpY_takeB 4 (.int .i64 X) rfl rfl (by kernel_rfl) (fun w1 => by go_simp; exact ⟨rfl, Below.refl _ _⟩) ?_
  simp only [Act.put, sIT, sCZ, sCS]
  refine wpY_takeB 5 (.int .i64 0) rfl rfl (by kernel_rfl) (fun w1 => by go_simp; exact ⟨rfl, Below.refl _ _⟩) ?_
  simp only [Act.put, sIT, sCZ, sCS]
  refine wpY_takeB 6 (.int .i64 X) rfl rfl (by kernel_rfl) (fun w1 => by go_simp; exact ⟨rfl, Below.refl _ _⟩) ?_
  simp only [Act.put, sIT, sCZ, sCS]
  refine wpY_takeB 7 (.int .i64 0) rfl rfl (by kernel_rfl) (fun w1 => by go_simp; exact ⟨rfl, Below.refl _ _⟩) ?_
  simp only [Act.put, sIT, sCZ, sCS]
  refine wpY_end (by kernel_rfl) (fun w3 h3 => ?_)
  replace hB := hB.trans (h3.mono hB.size)
  go_wp2_with (fail)
  go_ret
  exact ⟨rfl, hB⟩
end Go.Proofs.YtjnocbjngojigaaGreat
namespace Go.Proofs.YtjnocbjngojigaaGreat
open Go.RowKit PM Dt
end Go.Proofs.YtjnocbjngojigaaGreat
namespace Go.Proofs.YtjnocbjngojigaaGreat
open Go.RowKit PM Dt
theorem good_zero (x : Nat → Int) : goodE x (fun _ => 0) = okV x := by unfold goodE okV; simp
def resF (x : Nat → Int) : Nat → Int := if okV x then x else fun _ => 0
def resE (x : Nat → Int) : Int := if okV x then 0 else 7
theorem each_res (x : Nat → Int) : eachF x (fun _ => 0) = resF x ∧ eachE x (fun _ => 0) = resE x := by
  unfold eachF eachE resF resE; rw [good_zero]; exact ⟨rfl, rfl⟩
set_option maxRecDepth 100000 in
set_option maxHeartbeats 1000000 in
theorem result_any (x : Nat → Int) (w : World) : Calls Tryz.prog 101 #[.agg (vfn x)] w fun e w' => e = .returned (.tuple #[.agg (vfn (resF x)), .int .i64 (resE x)]) ∧ Below w.heap.size w w' := by
  have V1 := Lib.hid (fun w => rvalid_any x w)
  unfold resF resE
  obtain ⟨bf, hf⟩ : ∃ b, okV x = b := ⟨_, rfl⟩
  rw [hf] at V1 ⊢
  clear hf
  go_enter Tryz.func101, Tryz.ntmps101
  go_upto_region 1 with (fail)
  rw [zero_vec]
  have p : blk ((w.alloc (.cells (vfn x) 27)).alloc (.cells (vfn fun _ => 0) 27)) w.heap.size (vfn x) 27 := (blk.new _ _ _).alloc _
  have q : blk ((w.alloc (.cells (vfn x) 27)).alloc (.cells (vfn fun _ => 0) 27)) (w.heap.size + 1) (vfn fun _ => 0) 27 := blk.new' (by simp)
  have hB : Below w.heap.size w ((w.alloc (.cells (vfn x) 27)).alloc (.cells (vfn fun _ => 0) 27)) := by go_grown
  generalize (w.alloc (.cells (vfn x) 27)).alloc (.cells (vfn fun _ => 0) 27) = w0 at *
  cases bf
  · go_wp2_with (first
      | (refine wpList_load_rowG ?hw _ _ rfl _ rfl _ _ _ _ p Tryz.underlying27 rfl ?hi ?_; (case hw => (first | rfl | (simp [Region.wanted, yielded]; done))); (case hi => (rw [vfn_size]; kernel_rfl)))
      | (go_at_call 88; refine (V1.out _).mono ?_; rintro e w1 ⟨rfl, hb⟩; replace hB := hB.trans (hb.mono hB.size); replace p := p.below hb p.lt; replace q := q.below hb q.lt; clear hb)
      | (rw [zero_vec]; refine wpList_store_row rfl _ _ _ rfl _ rfl _ rfl _ _ q (by rw [vfn_size]; kernel_rfl) (by simp only [vfn_size]) (vfn_one _) ?_))
    refine bodyPost_ret (results_vec rfl _ _ _ _ _ _ _ rfl (q.row (vfn (fun _ => 0))) Tryz.underlying27 rfl (by rw [vfn_size]; kernel_rfl)) rfl ?_; refine ⟨?_, Below.setRow hB (by omega) _⟩
    rfl
  · go_wp2_with (first
      | (refine wpList_load_rowG ?hw _ _ rfl _ rfl _ _ _ _ p Tryz.underlying27 rfl ?hi ?_; (case hw => (first | rfl | (simp [Region.wanted, yielded]; done))); (case hi => (rw [vfn_size]; kernel_rfl)))
      | (go_at_call 88; refine (V1.out _).mono ?_; rintro e w1 ⟨rfl, hb⟩; replace hB := hB.trans (hb.mono hB.size); replace p := p.below hb p.lt; replace q := q.below hb q.lt; clear hb)
      | (refine wpList_store_row rfl _ _ _ rfl _ rfl _ rfl _ _ q (by rw [vfn_size]; kernel_rfl) (by simp only [vfn_size]) (vfn_one _) ?_))
    refine bodyPost_ret (results_vec rfl _ _ _ _ _ _ _ rfl (q.row (vfn x)) Tryz.underlying27 rfl (by rw [vfn_size]; kernel_rfl)) rfl ?_; refine ⟨?_, Below.setRow hB (by omega) _⟩
    rfl
end Go.Proofs.YtjnocbjngojigaaGreat
