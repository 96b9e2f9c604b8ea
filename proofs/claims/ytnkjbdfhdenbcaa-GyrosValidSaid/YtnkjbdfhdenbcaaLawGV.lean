/-
  Filters stay valid.
-/
import Derived.Test.YtnkjbdfhdenbcaaFilP
import Derived.Test.YtnkjbdfhdenbcaaArgH
import Derived.Test.YtnkjbdfhdenbcaaAw21
set_option linter.unusedSimpArgs false
set_option linter.unusedVariables false
namespace Go.Proofs.Ytnkjbdfhdenbcaa
open Go.RowKit PM Dt
set_option maxRecDepth 100000 in
set_option maxHeartbeats 4000000 in
theorem gvalid_no (q : Nat → Int) (a : Option Addr) (n c : Nat) (w : World) (hq : ∀ i, i < 4 → I64 (q i)) (hv : validQ q = false) : Calls Try.prog 8 #[.agg (qfn q), .slice a n c] w fun e w' => e = .returned (.bool true) ∧ Below w.heap.size w w' := by
  have AW := Lib.hid (fun w => awake21_any w)
  have NF := Lib.hid (fun w => fnew_no q w hq hv)
  clear hq hv
  go_enter Try.func8, Try.ntmps8
  go_upto_region 1 with (fail)
  have v : blk (w.alloc (.cells (qfn q) 46)) w.heap.size (qfn q) 46 := blk.new _ _ _
  have hB : Below w.heap.size w (w.alloc (.cells (qfn q) 46)) := by go_grown
  generalize (w.alloc (.cells (qfn q) 46)) = w0 at *
  go_upto_region 1 with (fail)
  have lt_v := v.lt
  have hW0 : w.heap.size ≤ w0.heap.size := by have := hB.size; first | exact this | simpa using this
  apply wp_region_Q 7 [0, 1, 3, 7, 15, 31, 63] [] [_, _, _, _, _, _, _] (fun p L w' => w0.heap.size ≤ w'.heap.size ∧ Below w.heap.size w w' ∧ blk w' w.heap.size (qfn q) 46) _ [(0, 11), (1, 12), (2, 10), (3, 13), (4, 14), (5, 5), (6, 6)] [0, 1, 2, 3, 4, 5, 6]
  case hn => rfl
  case hB => kernel_rfl
  case hds => kernel_rfl
  case hA => (intro p; simp only [putsD, Act.put, List.setIfInBounds_toArray, List.set_cons_zero, List.set_cons_succ, List.getD_cons_zero, List.getD_cons_succ]; exact rfl)
  case h0 => exact fun p => ⟨Nat.le_refl _, hB, v⟩
  case hmore => exact fun p L w1 w2 ⟨hsz, hB, v⟩ hm => ⟨Nat.le_trans hsz hm.size, hB.trans (hm.mono (Nat.le_trans hW0 hsz)), v.below hm v.lt⟩
  case hs =>
    intro more
    refine stepV 0 rfl rfl (fun _ _ _ h => h) ?_ ?_
    · rintro p L w1 ⟨hsz, hB, v⟩ hk
      first | exact valR_row _ _ rfl _ rfl _ _ v _ Try.underlying46 rfl (by first | kernel_rfl | (rw [qfn_size]; kernel_rfl)) rfl | (have hc := v.cellIs (qfn_get _ (show 0 < 4 by omega)); go_simp; exact ⟨rfl, rfl⟩)
    refine stepD 1 rfl (fun p => rfl) (fun _ _ _ h => h) more ?_ ?_
    · rintro p L w1 ⟨hsz, hB, v⟩ hk
      go_simp
      refine (NF.out _).mono ?_
      rintro e w2 ⟨rfl, h2⟩
      first | exact ⟨rfl, h2⟩ | (subst h2; exact ⟨rfl, Below.refl _ _⟩)
    refine stepV 2 rfl rfl (fun _ _ _ h => h) ?_ ?_
    · intros; go_simp; exact ⟨rfl, rfl⟩
    refine stepV 3 rfl rfl (fun _ _ _ h => h) ?_ ?_
    · intros; go_simp; exact ⟨rfl, rfl⟩
    refine stepV 4 rfl rfl (fun _ _ _ h => h) ?_ ?_
    · intros; go_simp; exact ⟨rfl, rfl⟩
    refine stepV 5 rfl rfl (fun _ _ _ h => h) ?_ ?_
    · intros; go_simp; exact ⟨rfl, rfl⟩
    refine stepV 6 rfl rfl (fun _ _ _ h => h) ?_ ?_
    · intros; go_simp; exact ⟨rfl, rfl⟩
    exact AllI.nil
  case hV0 => exact fun p q => AllI.nil
  case he =>
  clear hB v
  rintro p w0r ⟨hsz, hB, v⟩
  clear lt_v
  clear hsz hW0
  go_wp2_with (first
    | (refine wpList_load_rowG ?hw _ _ rfl _ rfl _ _ _ _ v Try.underlying46 rfl ?hi ?_; (case hw => (first | rfl | (simp [Region.wanted, yielded]; done))); (case hi => (first | kernel_rfl | (rw [qfn_size]; kernel_rfl))))
    | (go_at_call 25; with_reducible refine (AW.out _).mono ?_; rintro e w9 ⟨rfl, hb⟩; replace hB := hB.trans (hb.mono hB.size); replace v := v.below hb v.lt; clear hb))
  go_ret
  exact ⟨rfl, hB⟩
set_option maxRecDepth 100000 in
set_option maxHeartbeats 4000000 in
theorem gvalid_long (q : Nat → Int) (a : Option Addr) (n c : Nat) (w : World) (hn : 60 < n) (hq : ∀ i, i < 4 → I64 (q i)) (hv : validQ q = true) : Calls Try.prog 8 #[.agg (qfn q), .slice a n c] w fun e w' => e = .returned (.bool true) ∧ Below w.heap.size w w' := by
  have AW := Lib.hid (fun w => awake21_any w)
  have d1 : decide ((60 : Int) < (n : Int)) = true := decide_eq_true (by omega)
  have d2 : decide (60 < n) = true := decide_eq_true (by omega)
  have NF := Lib.hid (fun w => fnew_ok q w hq hv)
  clear hq hv
  go_enter Try.func8, Try.ntmps8
  go_upto_region 1 with (fail)
  have v : blk (w.alloc (.cells (qfn q) 46)) w.heap.size (qfn q) 46 := blk.new _ _ _
  have hB : Below w.heap.size w (w.alloc (.cells (qfn q) 46)) := by go_grown
  generalize (w.alloc (.cells (qfn q) 46)) = w0 at *
  go_upto_region 1 with (fail)
  have lt_v := v.lt
  have hW0 : w.heap.size ≤ w0.heap.size := by have := hB.size; first | exact this | simpa using this
  apply wp_region_Q 7 [0, 1, 3, 7, 15, 31, 63] [1] [_, (fun p => (fun b => .tuple #[.pointer (some ⟨b, 0, none⟩), .int .i64 0]) (p 1)), _, _, _, _, _] (fun p L w' => w0.heap.size ≤ w'.heap.size ∧ Below w.heap.size w w' ∧ blk w' w.heap.size (qfn q) 46 ∧ (L 1 = true → w0.heap.size ≤ p 1 ∧ blk w' (p 1) (fltc (q, fun _ => 0)) 91)) _ [(0, 11), (1, 12), (2, 10), (3, 13), (4, 14), (5, 5), (6, 6)] [0, 1, 2, 3, 4, 5, 6]
  case hn => rfl
  case hB => kernel_rfl
  case hds => kernel_rfl
  case hA => (intro p; simp only [putsD, Act.put, List.setIfInBounds_toArray, List.set_cons_zero, List.set_cons_succ, List.getD_cons_zero, List.getD_cons_succ]; exact rfl)
  case h0 => exact fun p => ⟨Nat.le_refl _, hB, v, fun h => absurd h (by decide)⟩
  case hmore => exact fun p L w1 w2 ⟨hsz, hB, v, h_f⟩ hm => ⟨Nat.le_trans hsz hm.size, hB.trans (hm.mono (Nat.le_trans hW0 hsz)), v.below hm v.lt, fun hl => ⟨(h_f hl).1, (h_f hl).2.below hm (h_f hl).2.lt⟩⟩
  case hs =>
    intro more
    refine stepV 0 rfl rfl (fun _ _ _ h => h) ?_ ?_
    · rintro p L w1 ⟨hsz, hB, v, h_f⟩ hk
      first | exact valR_row _ _ rfl _ rfl _ _ v _ Try.underlying46 rfl (by first | kernel_rfl | (rw [qfn_size]; kernel_rfl)) rfl | (have hc := v.cellIs (qfn_get _ (show 0 < 4 by omega)); go_simp; exact ⟨rfl, rfl⟩)
    refine AllI.cons ?_ ?_
    · refine stepI_new 1 rfl (fun p => rfl) rfl (fun b => .tuple #[.pointer (some ⟨b, 0, none⟩), .int .i64 0]) (fltc (q, fun _ => 0)) 91 (fun p => rfl) ?_ ?_
      · rintro p L w1 ⟨hsz, hB, v, h_f⟩ hk
        go_simp
        refine (NF.out _).mono ?_
        rintro e w2 ⟨b, rfl, hb, hle, hm⟩
        exact ⟨_, rfl, b, rfl, hb, hle, hm⟩
      rintro p L w1 w2 b ⟨hsz, hB, v, h_f⟩ hk hb hle hm
      refine ⟨Nat.le_trans hsz hm.size, hB.trans (hm.mono (Nat.le_trans hW0 hsz)), v.below hm v.lt, fun _ => ⟨Nat.le_trans hsz hle, ?_⟩⟩
      exact hb
    refine stepV 2 rfl rfl (fun _ _ _ h => h) ?_ ?_
    · intros; go_simp; exact ⟨rfl, rfl⟩
    refine stepV 3 rfl rfl (fun _ _ _ h => h) ?_ ?_
    · intros; go_simp; exact ⟨rfl, rfl⟩
    refine stepV 4 rfl rfl (fun _ _ _ h => h) ?_ ?_
    · intros; go_simp; exact ⟨rfl, rfl⟩
    refine stepV 5 rfl rfl (fun _ _ _ h => h) ?_ ?_
    · intros; go_simp; exact ⟨rfl, rfl⟩
    refine stepV 6 rfl rfl (fun _ _ _ h => h) ?_ ?_
    · intros; go_simp; exact ⟨rfl, rfl⟩
    exact AllI.nil
  case hV0 =>
    intro p q
    refine AllI.cons ?_ ?_
    · skip
      iterate 7 (refine AllI.cons (by first | exact .inl rfl | (refine .inr ?_; simp only [List.getD_cons_zero, List.getD_cons_succ]; done) | exact .inr rfl) ?_)
      exact AllI.nil
    exact AllI.nil
  case he =>
  clear hB v
  rintro p w0r ⟨hsz, hB, v, h_f⟩
  obtain ⟨le_f, f⟩ := h_f rfl
  clear h_f
  replace f : blk w0r (p 1) (fltc (q, fun _ => 0)) 91 := f
  have ne_v_f : w.heap.size ≠ p 1 := Nat.ne_of_lt (Nat.lt_of_lt_of_le lt_v le_f)
  have ge_f : w.heap.size ≤ p 1 := Nat.le_trans hW0 le_f
  generalize p 1 = f_b at *
  clear lt_v
  clear hsz hW0
  go_wp2_with (first
    | (refine wpList_load_rowG ?hw _ _ rfl _ rfl _ _ _ _ v Try.underlying46 rfl ?hi ?_; (case hw => (first | rfl | (simp [Region.wanted, yielded]; done))); (case hi => (first | kernel_rfl | (rw [qfn_size]; kernel_rfl))))
    | (go_at_call 25; with_reducible refine (AW.out _).mono ?_; rintro e w9 ⟨rfl, hb⟩; replace hB := hB.trans (hb.mono hB.size); replace v := v.below hb v.lt; replace f := f.below hb f.lt; clear hb))
  go_ret
  exact ⟨rfl, hB⟩
set_option maxRecDepth 100000 in
set_option maxHeartbeats 20000000 in
theorem gvalid_ok (q : Nat → Int) (a : Option Addr) (n c : Nat) (x : Nat → Bool × (Nat → Int) × (Nat → Int)) (w : World) (hn : n ≤ 60) (hv : validQ q = true) (el : ElemsA w a n 8 (fun k => (lok (x k)).toList)) (hx : ∀ k, k < n → Wlok (x k)) (hq : ∀ i, i < 4 → I64 (q i)) : Calls Try.prog 8 #[.agg (qfn q), .slice a n c] w fun e w' => e = .returned (.bool true) ∧ Below w.heap.size w w' := by
  have AW := Lib.hid (fun w => awake21_any w)
  have d1 : decide ((60 : Int) < (n : Int)) = false := decide_eq_false (by omega)
  have d2 : decide (60 < n) = false := decide_eq_false (by omega)
  have NF := Lib.hid (fun w => fnew_ok q w hq hv)
  have FN := FI.new hq hv
  clear hq hv
  replace hx := Lib.hid hx
  replace el := Lib.hid el
  go_enter Try.func8, Try.ntmps8
  go_upto_region 1 with (fail)
  have v : blk (w.alloc (.cells (qfn q) 46)) w.heap.size (qfn q) 46 := blk.new _ _ _
  have hB : Below w.heap.size w (w.alloc (.cells (qfn q) 46)) := by go_grown
  generalize (w.alloc (.cells (qfn q) 46)) = w0 at *
  go_upto_region 1 with (fail)
  have lt_v := v.lt
  have hW0 : w.heap.size ≤ w0.heap.size := by have := hB.size; first | exact this | simpa using this
  apply wp_region_Q 7 [0, 1, 3, 7, 15, 31, 63] [1] [_, (fun p => (fun b => .tuple #[.pointer (some ⟨b, 0, none⟩), .int .i64 0]) (p 1)), _, _, _, _, _] (fun p L w' => w0.heap.size ≤ w'.heap.size ∧ Below w.heap.size w w' ∧ blk w' w.heap.size (qfn q) 46 ∧ (L 1 = true → w0.heap.size ≤ p 1 ∧ blk w' (p 1) (fltc (q, fun _ => 0)) 91)) _ [(0, 11), (1, 12), (2, 10), (3, 13), (4, 14), (5, 5), (6, 6)] [0, 1, 2, 3, 4, 5, 6]
  case hn => rfl
  case hB => kernel_rfl
  case hds => kernel_rfl
  case hA => (intro p; simp only [putsD, Act.put, List.setIfInBounds_toArray, List.set_cons_zero, List.set_cons_succ, List.getD_cons_zero, List.getD_cons_succ]; exact rfl)
  case h0 => exact fun p => ⟨Nat.le_refl _, hB, v, fun h => absurd h (by decide)⟩
  case hmore => exact fun p L w1 w2 ⟨hsz, hB, v, h_f⟩ hm => ⟨Nat.le_trans hsz hm.size, hB.trans (hm.mono (Nat.le_trans hW0 hsz)), v.below hm v.lt, fun hl => ⟨(h_f hl).1, (h_f hl).2.below hm (h_f hl).2.lt⟩⟩
  case hs =>
    intro more
    refine stepV 0 rfl rfl (fun _ _ _ h => h) ?_ ?_
    · rintro p L w1 ⟨hsz, hB, v, h_f⟩ hk
      first | exact valR_row _ _ rfl _ rfl _ _ v _ Try.underlying46 rfl (by first | kernel_rfl | (rw [qfn_size]; kernel_rfl)) rfl | (have hc := v.cellIs (qfn_get _ (show 0 < 4 by omega)); go_simp; exact ⟨rfl, rfl⟩)
    refine AllI.cons ?_ ?_
    · refine stepI_new 1 rfl (fun p => rfl) rfl (fun b => .tuple #[.pointer (some ⟨b, 0, none⟩), .int .i64 0]) (fltc (q, fun _ => 0)) 91 (fun p => rfl) ?_ ?_
      · rintro p L w1 ⟨hsz, hB, v, h_f⟩ hk
        go_simp
        refine (NF.out _).mono ?_
        rintro e w2 ⟨b, rfl, hb, hle, hm⟩
        exact ⟨_, rfl, b, rfl, hb, hle, hm⟩
      rintro p L w1 w2 b ⟨hsz, hB, v, h_f⟩ hk hb hle hm
      refine ⟨Nat.le_trans hsz hm.size, hB.trans (hm.mono (Nat.le_trans hW0 hsz)), v.below hm v.lt, fun _ => ⟨Nat.le_trans hsz hle, ?_⟩⟩
      exact hb
    refine stepV 2 rfl rfl (fun _ _ _ h => h) ?_ ?_
    · intros; go_simp; exact ⟨rfl, rfl⟩
    refine stepV 3 rfl rfl (fun _ _ _ h => h) ?_ ?_
    · intros; go_simp; exact ⟨rfl, rfl⟩
    refine stepV 4 rfl rfl (fun _ _ _ h => h) ?_ ?_
    · intros; go_simp; exact ⟨rfl, rfl⟩
    refine stepV 5 rfl rfl (fun _ _ _ h => h) ?_ ?_
    · intros; go_simp; exact ⟨rfl, rfl⟩
    refine stepV 6 rfl rfl (fun _ _ _ h => h) ?_ ?_
    · intros; go_simp; exact ⟨rfl, rfl⟩
    exact AllI.nil
  case hV0 =>
    intro p q
    refine AllI.cons ?_ ?_
    · skip
      iterate 7 (refine AllI.cons (by first | exact .inl rfl | (refine .inr ?_; simp only [List.getD_cons_zero, List.getD_cons_succ]; done) | exact .inr rfl) ?_)
      exact AllI.nil
    exact AllI.nil
  case he =>
  clear hB v
  rintro p w0r ⟨hsz, hB, v, h_f⟩
  obtain ⟨le_f, f⟩ := h_f rfl
  clear h_f
  replace f : blk w0r (p 1) (fltc (q, fun _ => 0)) 91 := f
  have ne_v_f : w.heap.size ≠ p 1 := Nat.ne_of_lt (Nat.lt_of_lt_of_le lt_v le_f)
  have ge_f : w.heap.size ≤ p 1 := Nat.le_trans hW0 le_f
  generalize p 1 = f_b at *
  clear lt_v
  clear hsz hW0
  go_wp2_with (fail)
  go_loopg [7] n (fun g_ iv wr => ∃ K : Nat, ∃ Q B : Nat → Int, g_ + K = n ∧ iv = .int .i64 K ∧ FI Q B ∧ blk wr w.heap.size (qfn q) 46 ∧ blk wr f_b (fltc (Q, B)) 91 ∧ Below w.heap.size w wr)
  case atStart => exact ⟨0, q, fun _ => 0, by omega, rfl, FN, v, f, hB⟩
  case round =>
    clear FN v f hB NF
    obtain ⟨K, Q, B, hK, rfl, FQ, v, f, hB⟩ := hrel
    by_cases hKn : K < n
    · have hdK : decide ((K : Int) < n) = true := decide_eq_true (by omega)
      have hdK' : decide (K < n) = true := decide_eq_true hKn
      have hkn3 : (K : Int) < n := by omega
      have hk0 : (0 : Int) ≤ K := by omega
      have hwK : IntKind.i64.wrap ((K : Int) + 1) = ((K + 1 : Nat) : Int) := by rw [IntKind.wrap_i64]; omega
      obtain ⟨eb, eo, rfl, hEl, hE⟩ := el.out K hKn
      obtain ⟨hxr, hxq⟩ := hx.out K hKn
      replace hE : w.rangeAt eb (eo + K * 8) ((lok (x K)).toList) := hE
      obtain ⟨S, hS⟩ : ∃ S, (x K).1 = S := ⟨_, rfl⟩
      have PD := Lib.hid (fun w (hg : blk w f_b (fltc (Q, B)) 91) => pred_any Q B (x K).2.1 f_b w hg FQ)
      have FP := FQ.pred (x K).2.1
      have CO := Lib.hid (fun w (hg : blk w f_b (fltc (predQ Q B (x K).2.1, B)) 91) => cor_any (predQ Q B (x K).2.1) B (x K).2.2 f_b w hg FP hxq)
      have FC := FP.cor hxq
      clear hxr hxq FQ
      go_upto_region 9 with (fail)
      have lt_v := v.lt
      have lt_f := f.lt
      have hW0 : w.heap.size ≤ wr.heap.size := by have := hB.size; first | exact this | simpa using this
      apply wp_region_Q 7 [0, 1, 3, 7, 15, 31, 63] [] [_, _, _, _, _, _, _] (fun p L w' => wr.heap.size ≤ w'.heap.size ∧ Below w.heap.size w w' ∧ blk w' w.heap.size (qfn q) 46 ∧ blk w' f_b (bif L 6 then (fltc (predQ Q B (x K).2.1, B)) else (fltc (Q, B))) 91) _ [(0, 31), (1, 32), (2, 33), (3, 34), (4, 35), (5, 36), (6, 37)] [0, 1, 2, 3, 4, 5, 6]
      case hn => rfl
      case hB => kernel_rfl
      case hds => kernel_rfl
      case hA => (intro p; simp only [putsD, Act.put, List.setIfInBounds_toArray, List.set_cons_zero, List.set_cons_succ, List.getD_cons_zero, List.getD_cons_succ]; exact rfl)
      case h0 => exact fun p => ⟨Nat.le_refl _, hB, v, f⟩
      case hmore => exact fun p L w1 w2 ⟨hsz, hB, v, f⟩ hm => ⟨Nat.le_trans hsz hm.size, hB.trans (hm.mono (Nat.le_trans hW0 hsz)), v.below hm v.lt, f.below hm f.lt⟩
      case hs =>
        intro more
        refine stepV 0 rfl rfl (fun _ _ _ h => h) ?_ ?_
        · intros; go_simp; exact ⟨rfl, rfl⟩
        refine stepV 1 rfl rfl (fun _ _ _ h => h) ?_ ?_
        · intros; go_simp; exact ⟨rfl, rfl⟩
        refine stepV 2 rfl rfl (fun _ _ _ h => h) ?_ ?_
        · intros; go_simp; exact ⟨rfl, rfl⟩
        refine stepV 3 rfl rfl (fun _ _ _ h => h) ?_ ?_
        · intros; go_simp; exact ⟨rfl, rfl⟩
        refine stepV 4 rfl rfl (fun _ _ _ h => h) ?_ ?_
        · intros; go_simp; exact ⟨rfl, rfl⟩
        refine stepV 5 rfl rfl (fun _ _ _ h => h) ?_ ?_
        · rintro p L w1 ⟨hsz, hB, v, f⟩ hk
          have hr := range_below hE hB hEl
          exact valR_range _ _ rfl _ _ rfl _ (eo + K * 8) 1 hr (by first | rfl | omega) (vfn (x K).2.1) (lok_rL (x K)) _ Try.underlying39 rfl (by rw [vfn_size]; kernel_rfl) rfl
        refine AllI.cons ?_ ?_
        · refine stepI_mut 6 rfl (fun p => rfl) (fun _ => f_b) (fun p => (fltc (predQ Q B (x K).2.1, B))) ?_ ?_
          · rintro p L w1 ⟨hsz, hB, v, f⟩ hk
            have L6 : L 6 = false := hk.1
            rw [L6] at f
            try simp only [cond_true, cond_false] at f
            go_simp
            refine (PD.out _ f).mono ?_
            rintro e w2 ⟨rfl, h2⟩
            exact ⟨rfl, h2⟩
          · rintro p L w1 w2 ⟨hsz, hB, v, f⟩ hk hm
            have L6 : L 6 = false := hk.1
            refine ⟨Nat.le_trans hsz (by have := hm.size; simpa using this), (Below.setRow hB (by first | exact Nat.le_trans hW0 hp.1 | exact ge_f | omega | (have := hB.size; simp at this ⊢; omega)) _).trans (hm.mono (Nat.le_trans hW0 hsz)), (v.rowOther (by first | exact ne_v_f | exact Ne.symm ne_f_v | omega) _).below hm (by simpa using v.lt), ?_⟩
            rw [show upL L 6 6 = true from rfl]
            exact (f.row _).below hm (by simpa using f.lt)
        exact AllI.nil
      case hV0 => exact fun p q => AllI.nil
      case he =>
      clear hB v f
      rintro p wrr ⟨hsz, hB, v, f⟩
      replace f : blk wrr f_b (fltc (predQ Q B (x K).2.1, B)) 91 := f
      clear lt_v
      clear lt_f
      clear hsz hW0
      generalize predQ Q B (x K).2.1 = P at *
      go_upto_region 10 with (fail)
      have lt_v := v.lt
      have lt_f := f.lt
      have hW0 : w.heap.size ≤ wrr.heap.size := by have := hB.size; first | exact this | simpa using this
      apply wp_region_Q 5 [0, 1, 3, 7, 15] [] [_, _, _, _, _] (fun p L w' => wrr.heap.size ≤ w'.heap.size ∧ Below w.heap.size w w' ∧ blk w' w.heap.size (qfn q) 46 ∧ blk w' f_b (fltc (P, B)) 91) _ [(0, 38), (1, 39), (2, 40), (3, 41), (4, 42)] [0, 1, 2, 3, 4]
      case hn => rfl
      case hB => kernel_rfl
      case hds => kernel_rfl
      case hA => (intro p; simp only [putsD, Act.put, List.setIfInBounds_toArray, List.set_cons_zero, List.set_cons_succ, List.getD_cons_zero, List.getD_cons_succ]; exact rfl)
      case h0 => exact fun p => ⟨Nat.le_refl _, hB, v, f⟩
      case hmore => exact fun p L w1 w2 ⟨hsz, hB, v, f⟩ hm => ⟨Nat.le_trans hsz hm.size, hB.trans (hm.mono (Nat.le_trans hW0 hsz)), v.below hm v.lt, f.below hm f.lt⟩
      case hs =>
        intro more
        refine stepV 0 rfl rfl (fun _ _ _ h => h) ?_ ?_
        · intros; go_simp; exact ⟨rfl, rfl⟩
        refine stepV 1 rfl rfl (fun _ _ _ h => h) ?_ ?_
        · intros; go_simp; exact ⟨rfl, rfl⟩
        refine stepV 2 rfl rfl (fun _ _ _ h => h) ?_ ?_
        · intros; go_simp; exact ⟨rfl, rfl⟩
        refine stepV 3 rfl rfl (fun _ _ _ h => h) ?_ ?_
        · intros; go_simp; exact ⟨rfl, rfl⟩
        refine stepV 4 rfl rfl (fun _ _ _ h => h) ?_ ?_
        · rintro p L w1 ⟨hsz, hB, v, f⟩ hk
          have hr := range_below hE hB hEl
          have hc : w1.cell? ⟨eb, eo + K * 8, none⟩ = some (.bool (x K).1) := hr 0 _ rfl
          go_simp
          exact ⟨rfl, rfl⟩
        exact AllI.nil
      case hV0 => exact fun p q => AllI.nil
      case he =>
      clear hB v f
      rintro p wrrr ⟨hsz, hB, v, f⟩
      clear lt_v
      clear lt_f
      clear hsz hW0
      try rw [hS]
      cases S with
      | true =>
        go_upto_region 11 with (fail)
        have lt_v := v.lt
        have lt_f := f.lt
        have hW0 : w.heap.size ≤ wrrr.heap.size := by have := hB.size; first | exact this | simpa using this
        apply wp_region_Q 7 [0, 1, 3, 7, 15, 31, 63] [] [_, _, _, _, _, _, _] (fun p L w' => wrrr.heap.size ≤ w'.heap.size ∧ Below w.heap.size w w' ∧ blk w' w.heap.size (qfn q) 46 ∧ blk w' f_b (bif L 6 then (fltc (corQ P (x K).2.2, corB P B (x K).2.2)) else (fltc (P, B))) 91) _ [(0, 43), (1, 44), (2, 45), (3, 46), (4, 47), (5, 48), (6, 49)] [0, 1, 2, 3, 4, 5, 6]
        case hn => rfl
        case hB => kernel_rfl
        case hds => kernel_rfl
        case hA => (intro p; simp only [putsD, Act.put, List.setIfInBounds_toArray, List.set_cons_zero, List.set_cons_succ, List.getD_cons_zero, List.getD_cons_succ]; exact rfl)
        case h0 => exact fun p => ⟨Nat.le_refl _, hB, v, f⟩
        case hmore => exact fun p L w1 w2 ⟨hsz, hB, v, f⟩ hm => ⟨Nat.le_trans hsz hm.size, hB.trans (hm.mono (Nat.le_trans hW0 hsz)), v.below hm v.lt, f.below hm f.lt⟩
        case hs =>
          intro more
          refine stepV 0 rfl rfl (fun _ _ _ h => h) ?_ ?_
          · intros; go_simp; exact ⟨rfl, rfl⟩
          refine stepV 1 rfl rfl (fun _ _ _ h => h) ?_ ?_
          · intros; go_simp; exact ⟨rfl, rfl⟩
          refine stepV 2 rfl rfl (fun _ _ _ h => h) ?_ ?_
          · intros; go_simp; exact ⟨rfl, rfl⟩
          refine stepV 3 rfl rfl (fun _ _ _ h => h) ?_ ?_
          · intros; go_simp; exact ⟨rfl, rfl⟩
          refine stepV 4 rfl rfl (fun _ _ _ h => h) ?_ ?_
          · intros; go_simp; exact ⟨rfl, rfl⟩
          refine stepV 5 rfl rfl (fun _ _ _ h => h) ?_ ?_
          · rintro p L w1 ⟨hsz, hB, v, f⟩ hk
            have hr := range_below hE hB hEl
            exact valR_range _ _ rfl _ _ rfl _ (eo + K * 8) 4 hr (by first | rfl | omega) (qfn (x K).2.2) (lok_qL (x K)) _ Try.underlying46 rfl (by rw [qfn_size]; kernel_rfl) rfl
          refine AllI.cons ?_ ?_
          · refine stepI_mut 6 rfl (fun p => rfl) (fun _ => f_b) (fun p => (fltc (corQ P (x K).2.2, corB P B (x K).2.2))) ?_ ?_
            · rintro p L w1 ⟨hsz, hB, v, f⟩ hk
              have L6 : L 6 = false := hk.1
              rw [L6] at f
              try simp only [cond_true, cond_false] at f
              go_simp
              refine (CO.out _ f).mono ?_
              rintro e w2 ⟨rfl, h2⟩
              exact ⟨rfl, h2⟩
            · rintro p L w1 w2 ⟨hsz, hB, v, f⟩ hk hm
              have L6 : L 6 = false := hk.1
              refine ⟨Nat.le_trans hsz (by have := hm.size; simpa using this), (Below.setRow hB (by first | exact Nat.le_trans hW0 hp.1 | exact ge_f | omega | (have := hB.size; simp at this ⊢; omega)) _).trans (hm.mono (Nat.le_trans hW0 hsz)), (v.rowOther (by first | exact ne_v_f | exact Ne.symm ne_f_v | omega) _).below hm (by simpa using v.lt), ?_⟩
              rw [show upL L 6 6 = true from rfl]
              exact (f.row _).below hm (by simpa using f.lt)
          exact AllI.nil
        case hV0 => exact fun p q => AllI.nil
        case he =>
        clear hB v f
        rintro p wrrrr ⟨hsz, hB, v, f⟩
        replace f : blk wrrrr f_b (fltc (corQ P (x K).2.2, corB P B (x K).2.2)) 91 := f
        clear lt_v
        clear lt_f
        clear hsz hW0
        clear CO PD hE FP
        generalize corQ P (x K).2.2 = Q2 at *
        generalize corB P B (x K).2.2 = B2 at *
        have AT := Lib.hid (fun w (hg : blk w f_b (fltc (Q2, B2)) 91) => fattitude_any Q2 B2 f_b w hg FC.nz)
        have BI := Lib.hid (fun w (hg : blk w f_b (fltc (Q2, B2)) 91) => fbias_any Q2 B2 f_b w hg FC.nz)
        have VA := Lib.hid (fun w => qvalid_any Q2 w FC.i)
        rw [FC.v] at VA
        have HB := Lib.hid FC.b
        go_upto_region 12 with (fail)
        have lt_v := v.lt
        have lt_f := f.lt
        have hW0 : w.heap.size ≤ wrrrr.heap.size := by have := hB.size; first | exact this | simpa using this
        apply wp_region_Q 4 [0, 1, 3, 7] [2] [_, _, (fun p => .pointer (some ⟨p 2, 0, none⟩)), (fun _ => undef)] (fun p L w' => wrrrr.heap.size ≤ w'.heap.size ∧ Below w.heap.size w w' ∧ blk w' w.heap.size (qfn q) 46 ∧ blk w' f_b (fltc (Q2, B2)) 91 ∧ (L 2 = true → wrrrr.heap.size ≤ p 2 ∧ blk w' (p 2) (bif L 3 then (vfn B2) else (vfn fun _ => 0)) 39)) _ [(0, 50), (1, 51), (2, 8)] [0, 1, 2, 3]
        case hn => rfl
        case hB => kernel_rfl
        case hds => kernel_rfl
        case hA => (intro p; simp only [putsD, Act.put, List.setIfInBounds_toArray, List.set_cons_zero, List.set_cons_succ, List.getD_cons_zero, List.getD_cons_succ]; exact rfl)
        case h0 => exact fun p => ⟨Nat.le_refl _, hB, v, f, fun h => absurd h (by decide)⟩
        case hmore => exact fun p L w1 w2 ⟨hsz, hB, v, f, h_d⟩ hm => ⟨Nat.le_trans hsz hm.size, hB.trans (hm.mono (Nat.le_trans hW0 hsz)), v.below hm v.lt, f.below hm f.lt, fun hl => ⟨(h_d hl).1, (h_d hl).2.below hm (h_d hl).2.lt⟩⟩
        case hs =>
          intro more
          refine stepV 0 rfl rfl (fun _ _ _ h => h) ?_ ?_
          · intros; go_simp; exact ⟨rfl, rfl⟩
          refine stepD 1 rfl (fun p => rfl) (fun _ _ _ h => h) more ?_ ?_
          · rintro p L w1 ⟨hsz, hB, v, f, h_d⟩ hk
            have L3 : L 3 = false := hk.2.2 3 rfl
            go_simp
            refine (BI.out _ f).mono ?_
            rintro e w2 ⟨rfl, h2⟩
            first | exact ⟨rfl, h2⟩ | (subst h2; exact ⟨rfl, Below.refl _ _⟩)
          refine AllI.cons ?_ ?_
          · refine stepI_alloc 2 rfl (fun p => rfl) rfl (vfn fun _ => 0) 39 (fun p => rfl) ?_ ?_
            · intro p w1
              go_simp
              first | rfl | rw [zero_vec]
            rintro p L w1 ⟨hsz, hB, v, f, h_d⟩ hk
            have L3 : L 3 = false := hk.2.2 3 rfl
            refine ⟨Nat.le_trans hsz (by simp), hB.alloc (Nat.le_trans (by first | exact hW0 | (have := hB.size; simp at this ⊢; omega)) hsz) _, v.alloc _, f.alloc _, fun _ => ⟨hsz, ?_⟩⟩
            rw [show upL L 2 3 = false from L3]
            exact blk.new _ _ _
          refine AllI.cons ?_ ?_
          · refine stepI_store 3 rfl (fun p => rfl) (fun p => rfl) _ _ _ rfl (fun p => p 2) 0 (fun p => rfl) (fun p => (vfn B2)) (fun p => rfl) (fun p => (vfn fun _ => 0)) (fun p => (vfn B2)) 39 (fun p => over_v _ _) (fun p => by first | (rw [vfn_size, vfn_size]; decide) | simp [vfn_size, vfn_size]) (fun p => by rw [vfn_size]; kernel_rfl) (fun p => vfn_one _) ?_ ?_
            · rintro p L w1 ⟨hsz, hB, v, f, h_d⟩ hk
              have L3 : L 3 = false := hk.1
              have hh := (h_d (hk.2.1 2 rfl)).2
              rw [L3] at hh
              try simp only [cond_true, cond_false] at hh
              exact hh
            · rintro p L w1 ⟨hsz, hB, v, f, h_d⟩ hk
              have L3 : L 3 = false := hk.1
              skip
              have hp := h_d (hk.2.1 2 rfl)
              refine ⟨(by simpa using hsz), Below.setRow hB (by first | exact Nat.le_trans hW0 hp.1 | exact ge_d | omega | (have := hB.size; simp at this ⊢; omega)) _, v.rowOther (by first | exact Nat.ne_of_lt (Nat.lt_of_lt_of_le lt_v hp.1) | omega) _, f.rowOther (by first | exact Nat.ne_of_lt (Nat.lt_of_lt_of_le lt_f hp.1) | omega) _, fun _ => ⟨hp.1, ?_⟩⟩
              rw [show upL L 3 3 = true from rfl]
              exact hp.2.row _
          exact AllI.nil
        case hV0 =>
          intro p q
          refine AllI.cons ?_ ?_
          · skip
            iterate 4 (refine AllI.cons (by first | exact .inl rfl | (refine .inr ?_; simp only [List.getD_cons_zero, List.getD_cons_succ]; done) | exact .inr rfl) ?_)
            exact AllI.nil
          exact AllI.nil
        case he =>
        clear hB v f
        rintro p wrrrrr ⟨hsz, hB, v, f, h_d⟩
        obtain ⟨le_d, d⟩ := h_d rfl
        clear h_d
        replace d : blk wrrrrr (p 2) (vfn B2) 39 := d
        have ne_v_d : w.heap.size ≠ p 2 := Nat.ne_of_lt (Nat.lt_of_lt_of_le lt_v le_d)
        have ne_f_d : f_b ≠ p 2 := Nat.ne_of_lt (Nat.lt_of_lt_of_le lt_f le_d)
        have ge_d : w.heap.size ≤ p 2 := Nat.le_trans hW0 le_d
        generalize p 2 = d_b at *
        clear lt_v
        clear lt_f
        clear hsz hW0
        go_wp2_with (fail)
        go_loopg [9] 3 (fun g_ iv wr => ∃ k : Nat, g_ + k = 3 ∧ iv = .int .i64 k ∧ blk wr w.heap.size (qfn q) 46 ∧ blk wr f_b (fltc (Q2, B2)) 91 ∧ blk wr d_b (vfn B2) 39 ∧ Below w.heap.size w wr)
        case atStart => exact ⟨0, rfl, rfl, v, f, d, hB⟩
        case round =>
          clear v f d hB
          obtain ⟨k, hk, rfl, v, f, d, hB⟩ := hrel
          by_cases hkn : k < 3
          · have hdk : decide ((k : Int) < 3) = true := decide_eq_true (by omega)
            have hdk' : decide (k < 3) = true := decide_eq_true (by omega)
            have hk3 : (k : Int) < 3 := by omega
            have hw3 : IntKind.i64.wrap ((k : Int) + 1) = ((k + 1 : Nat) : Int) := by rw [IntKind.wrap_i64]; omega
            have hb := HB.out k hkn
            have e1 : decide ((16777216 : Int) < B2 k) = false := decide_eq_false (by omega)
            have e2 : decide (B2 k < -16777216) = false := decide_eq_false (by omega)
            clear hb
            go_upto_region 16 with (fail)
            have lt_v := v.lt
            have lt_f := f.lt
            have lt_d := d.lt
            have hW0 : w.heap.size ≤ wr.heap.size := by have := hB.size; first | exact this | simpa using this
            apply wp_region_Q 10 [0, 1, 3, 7, 15, 31, 63, 127, 255, 511] [] [_, _, _, _, _, _, _, _, _, _] (fun p L w' => wr.heap.size ≤ w'.heap.size ∧ Below w.heap.size w w' ∧ blk w' w.heap.size (qfn q) 46 ∧ blk w' f_b (fltc (Q2, B2)) 91 ∧ blk w' d_b (vfn B2) 39) _ [(0, 56), (1, 57), (2, 58), (3, 59), (4, 60), (5, 61), (6, 62), (7, 63), (8, 64), (9, 65)] [0, 1, 2, 3, 4, 5, 6, 7, 8, 9]
            case hn => rfl
            case hB => kernel_rfl
            case hds => kernel_rfl
            case hA => (intro p; simp only [putsD, Act.put, List.setIfInBounds_toArray, List.set_cons_zero, List.set_cons_succ, List.getD_cons_zero, List.getD_cons_succ]; exact rfl)
            case h0 => exact fun p => ⟨Nat.le_refl _, hB, v, f, d⟩
            case hmore => exact fun p L w1 w2 ⟨hsz, hB, v, f, d⟩ hm => ⟨Nat.le_trans hsz hm.size, hB.trans (hm.mono (Nat.le_trans hW0 hsz)), v.below hm v.lt, f.below hm f.lt, d.below hm d.lt⟩
            case hs =>
              intro more
              refine stepV 0 rfl rfl (fun _ _ _ h => h) ?_ ?_
              · intros; go_simp; exact ⟨rfl, rfl⟩
              refine stepV 1 rfl rfl (fun _ _ _ h => h) ?_ ?_
              · intros; go_simp; exact ⟨rfl, rfl⟩
              refine stepV 2 rfl rfl (fun _ _ _ h => h) ?_ ?_
              · rintro p L w1 ⟨hsz, hB, v, f, d⟩ hk
                have hc : w1.cell? ⟨d_b, k, none⟩ = some (.int .i64 (B2 k)) := d.cellIs (vfn_get _ hkn)
                go_simp
                exact ⟨rfl, rfl⟩
              refine stepV 3 rfl rfl (fun _ _ _ h => h) ?_ ?_
              · intros; go_simp; exact ⟨rfl, rfl⟩
              refine stepV 4 rfl rfl (fun _ _ _ h => h) ?_ ?_
              · intros; go_simp; exact ⟨rfl, rfl⟩
              refine stepVg 5 rfl (fun p => (by first | rfl | (simp [Region.wanted, yielded]; done))) (fun _ _ _ h => h) ?_ ?_
              · intros; go_simp; exact ⟨rfl, rfl⟩
              refine stepVg 6 rfl (fun p => (by first | rfl | (simp [Region.wanted, yielded]; done))) (fun _ _ _ h => h) ?_ ?_
              · intros; go_simp; exact ⟨rfl, rfl⟩
              refine stepVg 7 rfl (fun p => (by first | rfl | (simp [Region.wanted, yielded]; done))) (fun _ _ _ h => h) ?_ ?_
              · rintro p L w1 ⟨hsz, hB, v, f, d⟩ hk
                have hc : w1.cell? ⟨d_b, k, none⟩ = some (.int .i64 (B2 k)) := d.cellIs (vfn_get _ hkn)
                go_simp
                exact ⟨rfl, rfl⟩
              refine stepVg 8 rfl (fun p => (by first | rfl | (simp [Region.wanted, yielded]; done))) (fun _ _ _ h => h) ?_ ?_
              · intros; go_simp; exact ⟨rfl, rfl⟩
              refine stepV 9 rfl rfl (fun _ _ _ h => h) ?_ ?_
              · intros; go_simp; exact ⟨rfl, rfl⟩
              exact AllI.nil
            case hV0 => exact fun p q => AllI.nil
            case he =>
            clear hB v f d
            rintro p wrr ⟨hsz, hB, v, f, d⟩
            clear lt_v
            clear lt_f
            clear lt_d
            clear hsz hW0
            go_wp2_with (fail)
            go_roundg (3 - (k + 1))
            case rel =>
              exact ⟨k + 1, by omega, rfl, v, f, d, hB⟩
            case measure => omega
          · obtain rfl : k = 3 := by omega
            go_upto_region 18 with (fail)
            have lt_v := v.lt
            have lt_f := f.lt
            have lt_d := d.lt
            have hW0 : w.heap.size ≤ wr.heap.size := by have := hB.size; first | exact this | simpa using this
            apply wp_region_Q 4 [0, 1, 3, 7] [] [_, _, _, _] (fun p L w' => wr.heap.size ≤ w'.heap.size ∧ Below w.heap.size w w' ∧ blk w' w.heap.size (qfn q) 46 ∧ blk w' f_b (fltc (Q2, B2)) 91 ∧ blk w' d_b (vfn B2) 39) _ [(0, 66), (1, 67), (2, 68), (3, 69)] [0, 1, 2, 3]
            case hn => rfl
            case hB => kernel_rfl
            case hds => kernel_rfl
            case hA => (intro p; simp only [putsD, Act.put, List.setIfInBounds_toArray, List.set_cons_zero, List.set_cons_succ, List.getD_cons_zero, List.getD_cons_succ]; exact rfl)
            case h0 => exact fun p => ⟨Nat.le_refl _, hB, v, f, d⟩
            case hmore => exact fun p L w1 w2 ⟨hsz, hB, v, f, d⟩ hm => ⟨Nat.le_trans hsz hm.size, hB.trans (hm.mono (Nat.le_trans hW0 hsz)), v.below hm v.lt, f.below hm f.lt, d.below hm d.lt⟩
            case hs =>
              intro more
              refine stepV 0 rfl rfl (fun _ _ _ h => h) ?_ ?_
              · intros; go_simp; exact ⟨rfl, rfl⟩
              refine stepD 1 rfl (fun p => rfl) (fun _ _ _ h => h) more ?_ ?_
              · rintro p L w1 ⟨hsz, hB, v, f, d⟩ hk
                go_simp
                refine (AT.out _ f).mono ?_
                rintro e w2 ⟨rfl, h2⟩
                first | exact ⟨rfl, h2⟩ | (subst h2; exact ⟨rfl, Below.refl _ _⟩)
              refine stepD 2 rfl (fun p => rfl) (fun _ _ _ h => h) more ?_ ?_
              · rintro p L w1 ⟨hsz, hB, v, f, d⟩ hk
                go_simp
                refine (VA.out _).mono ?_
                rintro e w2 ⟨rfl, h2⟩
                first | exact ⟨rfl, h2⟩ | (subst h2; exact ⟨rfl, Below.refl _ _⟩)
              refine stepV 3 rfl rfl (fun _ _ _ h => h) ?_ ?_
              · intros; go_simp; exact ⟨rfl, rfl⟩
              exact AllI.nil
            case hV0 => exact fun p q => AllI.nil
            case he =>
            clear hB v f d
            rintro p wrr ⟨hsz, hB, v, f, d⟩
            clear lt_v
            clear lt_f
            clear lt_d
            clear hsz hW0
            go_wp2_with (fail)
            go_roundg (n - (K + 1))
            case rel => exact ⟨K + 1, Q2, B2, by omega, rfl, FC, v, f, hB⟩
            case measure => omega
      | false =>
        clear CO PD hE FC
        have AT := Lib.hid (fun w (hg : blk w f_b (fltc (P, B)) 91) => fattitude_any P B f_b w hg FP.nz)
        have BI := Lib.hid (fun w (hg : blk w f_b (fltc (P, B)) 91) => fbias_any P B f_b w hg FP.nz)
        have VA := Lib.hid (fun w => qvalid_any P w FP.i)
        rw [FP.v] at VA
        have HB := Lib.hid FP.b
        go_upto_region 12 with (fail)
        have lt_v := v.lt
        have lt_f := f.lt
        have hW0 : w.heap.size ≤ wrrr.heap.size := by have := hB.size; first | exact this | simpa using this
        apply wp_region_Q 4 [0, 1, 3, 7] [2] [_, _, (fun p => .pointer (some ⟨p 2, 0, none⟩)), (fun _ => undef)] (fun p L w' => wrrr.heap.size ≤ w'.heap.size ∧ Below w.heap.size w w' ∧ blk w' w.heap.size (qfn q) 46 ∧ blk w' f_b (fltc (P, B)) 91 ∧ (L 2 = true → wrrr.heap.size ≤ p 2 ∧ blk w' (p 2) (bif L 3 then (vfn B) else (vfn fun _ => 0)) 39)) _ [(0, 50), (1, 51), (2, 8)] [0, 1, 2, 3]
        case hn => rfl
        case hB => kernel_rfl
        case hds => kernel_rfl
        case hA => (intro p; simp only [putsD, Act.put, List.setIfInBounds_toArray, List.set_cons_zero, List.set_cons_succ, List.getD_cons_zero, List.getD_cons_succ]; exact rfl)
        case h0 => exact fun p => ⟨Nat.le_refl _, hB, v, f, fun h => absurd h (by decide)⟩
        case hmore => exact fun p L w1 w2 ⟨hsz, hB, v, f, h_d⟩ hm => ⟨Nat.le_trans hsz hm.size, hB.trans (hm.mono (Nat.le_trans hW0 hsz)), v.below hm v.lt, f.below hm f.lt, fun hl => ⟨(h_d hl).1, (h_d hl).2.below hm (h_d hl).2.lt⟩⟩
        case hs =>
          intro more
          refine stepV 0 rfl rfl (fun _ _ _ h => h) ?_ ?_
          · intros; go_simp; exact ⟨rfl, rfl⟩
          refine stepD 1 rfl (fun p => rfl) (fun _ _ _ h => h) more ?_ ?_
          · rintro p L w1 ⟨hsz, hB, v, f, h_d⟩ hk
            have L3 : L 3 = false := hk.2.2 3 rfl
            go_simp
            refine (BI.out _ f).mono ?_
            rintro e w2 ⟨rfl, h2⟩
            first | exact ⟨rfl, h2⟩ | (subst h2; exact ⟨rfl, Below.refl _ _⟩)
          refine AllI.cons ?_ ?_
          · refine stepI_alloc 2 rfl (fun p => rfl) rfl (vfn fun _ => 0) 39 (fun p => rfl) ?_ ?_
            · intro p w1
              go_simp
              first | rfl | rw [zero_vec]
            rintro p L w1 ⟨hsz, hB, v, f, h_d⟩ hk
            have L3 : L 3 = false := hk.2.2 3 rfl
            refine ⟨Nat.le_trans hsz (by simp), hB.alloc (Nat.le_trans (by first | exact hW0 | (have := hB.size; simp at this ⊢; omega)) hsz) _, v.alloc _, f.alloc _, fun _ => ⟨hsz, ?_⟩⟩
            rw [show upL L 2 3 = false from L3]
            exact blk.new _ _ _
          refine AllI.cons ?_ ?_
          · refine stepI_store 3 rfl (fun p => rfl) (fun p => rfl) _ _ _ rfl (fun p => p 2) 0 (fun p => rfl) (fun p => (vfn B)) (fun p => rfl) (fun p => (vfn fun _ => 0)) (fun p => (vfn B)) 39 (fun p => over_v _ _) (fun p => by first | (rw [vfn_size, vfn_size]; decide) | simp [vfn_size, vfn_size]) (fun p => by rw [vfn_size]; kernel_rfl) (fun p => vfn_one _) ?_ ?_
            · rintro p L w1 ⟨hsz, hB, v, f, h_d⟩ hk
              have L3 : L 3 = false := hk.1
              have hh := (h_d (hk.2.1 2 rfl)).2
              rw [L3] at hh
              try simp only [cond_true, cond_false] at hh
              exact hh
            · rintro p L w1 ⟨hsz, hB, v, f, h_d⟩ hk
              have L3 : L 3 = false := hk.1
              skip
              have hp := h_d (hk.2.1 2 rfl)
              refine ⟨(by simpa using hsz), Below.setRow hB (by first | exact Nat.le_trans hW0 hp.1 | exact ge_d | omega | (have := hB.size; simp at this ⊢; omega)) _, v.rowOther (by first | exact Nat.ne_of_lt (Nat.lt_of_lt_of_le lt_v hp.1) | omega) _, f.rowOther (by first | exact Nat.ne_of_lt (Nat.lt_of_lt_of_le lt_f hp.1) | omega) _, fun _ => ⟨hp.1, ?_⟩⟩
              rw [show upL L 3 3 = true from rfl]
              exact hp.2.row _
          exact AllI.nil
        case hV0 =>
          intro p q
          refine AllI.cons ?_ ?_
          · skip
            iterate 4 (refine AllI.cons (by first | exact .inl rfl | (refine .inr ?_; simp only [List.getD_cons_zero, List.getD_cons_succ]; done) | exact .inr rfl) ?_)
            exact AllI.nil
          exact AllI.nil
        case he =>
        clear hB v f
        rintro p wrrrr ⟨hsz, hB, v, f, h_d⟩
        obtain ⟨le_d, d⟩ := h_d rfl
        clear h_d
        replace d : blk wrrrr (p 2) (vfn B) 39 := d
        have ne_v_d : w.heap.size ≠ p 2 := Nat.ne_of_lt (Nat.lt_of_lt_of_le lt_v le_d)
        have ne_f_d : f_b ≠ p 2 := Nat.ne_of_lt (Nat.lt_of_lt_of_le lt_f le_d)
        have ge_d : w.heap.size ≤ p 2 := Nat.le_trans hW0 le_d
        generalize p 2 = d_b at *
        clear lt_v
        clear lt_f
        clear hsz hW0
        go_wp2_with (fail)
        go_loopg [9] 3 (fun g_ iv wr => ∃ k : Nat, g_ + k = 3 ∧ iv = .int .i64 k ∧ blk wr w.heap.size (qfn q) 46 ∧ blk wr f_b (fltc (P, B)) 91 ∧ blk wr d_b (vfn B) 39 ∧ Below w.heap.size w wr)
        case atStart => exact ⟨0, rfl, rfl, v, f, d, hB⟩
        case round =>
          clear v f d hB
          obtain ⟨k, hk, rfl, v, f, d, hB⟩ := hrel
          by_cases hkn : k < 3
          · have hdk : decide ((k : Int) < 3) = true := decide_eq_true (by omega)
            have hdk' : decide (k < 3) = true := decide_eq_true (by omega)
            have hk3 : (k : Int) < 3 := by omega
            have hw3 : IntKind.i64.wrap ((k : Int) + 1) = ((k + 1 : Nat) : Int) := by rw [IntKind.wrap_i64]; omega
            have hb := HB.out k hkn
            have e1 : decide ((16777216 : Int) < B k) = false := decide_eq_false (by omega)
            have e2 : decide (B k < -16777216) = false := decide_eq_false (by omega)
            clear hb
            go_upto_region 16 with (fail)
            have lt_v := v.lt
            have lt_f := f.lt
            have lt_d := d.lt
            have hW0 : w.heap.size ≤ wr.heap.size := by have := hB.size; first | exact this | simpa using this
            apply wp_region_Q 10 [0, 1, 3, 7, 15, 31, 63, 127, 255, 511] [] [_, _, _, _, _, _, _, _, _, _] (fun p L w' => wr.heap.size ≤ w'.heap.size ∧ Below w.heap.size w w' ∧ blk w' w.heap.size (qfn q) 46 ∧ blk w' f_b (fltc (P, B)) 91 ∧ blk w' d_b (vfn B) 39) _ [(0, 56), (1, 57), (2, 58), (3, 59), (4, 60), (5, 61), (6, 62), (7, 63), (8, 64), (9, 65)] [0, 1, 2, 3, 4, 5, 6, 7, 8, 9]
            case hn => rfl
            case hB => kernel_rfl
            case hds => kernel_rfl
            case hA => (intro p; simp only [putsD, Act.put, List.setIfInBounds_toArray, List.set_cons_zero, List.set_cons_succ, List.getD_cons_zero, List.getD_cons_succ]; exact rfl)
            case h0 => exact fun p => ⟨Nat.le_refl _, hB, v, f, d⟩
            case hmore => exact fun p L w1 w2 ⟨hsz, hB, v, f, d⟩ hm => ⟨Nat.le_trans hsz hm.size, hB.trans (hm.mono (Nat.le_trans hW0 hsz)), v.below hm v.lt, f.below hm f.lt, d.below hm d.lt⟩
            case hs =>
              intro more
              refine stepV 0 rfl rfl (fun _ _ _ h => h) ?_ ?_
              · intros; go_simp; exact ⟨rfl, rfl⟩
              refine stepV 1 rfl rfl (fun _ _ _ h => h) ?_ ?_
              · intros; go_simp; exact ⟨rfl, rfl⟩
              refine stepV 2 rfl rfl (fun _ _ _ h => h) ?_ ?_
              · rintro p L w1 ⟨hsz, hB, v, f, d⟩ hk
                have hc : w1.cell? ⟨d_b, k, none⟩ = some (.int .i64 (B k)) := d.cellIs (vfn_get _ hkn)
                go_simp
                exact ⟨rfl, rfl⟩
              refine stepV 3 rfl rfl (fun _ _ _ h => h) ?_ ?_
              · intros; go_simp; exact ⟨rfl, rfl⟩
              refine stepV 4 rfl rfl (fun _ _ _ h => h) ?_ ?_
              · intros; go_simp; exact ⟨rfl, rfl⟩
              refine stepVg 5 rfl (fun p => (by first | rfl | (simp [Region.wanted, yielded]; done))) (fun _ _ _ h => h) ?_ ?_
              · intros; go_simp; exact ⟨rfl, rfl⟩
              refine stepVg 6 rfl (fun p => (by first | rfl | (simp [Region.wanted, yielded]; done))) (fun _ _ _ h => h) ?_ ?_
              · intros; go_simp; exact ⟨rfl, rfl⟩
              refine stepVg 7 rfl (fun p => (by first | rfl | (simp [Region.wanted, yielded]; done))) (fun _ _ _ h => h) ?_ ?_
              · rintro p L w1 ⟨hsz, hB, v, f, d⟩ hk
                have hc : w1.cell? ⟨d_b, k, none⟩ = some (.int .i64 (B k)) := d.cellIs (vfn_get _ hkn)
                go_simp
                exact ⟨rfl, rfl⟩
              refine stepVg 8 rfl (fun p => (by first | rfl | (simp [Region.wanted, yielded]; done))) (fun _ _ _ h => h) ?_ ?_
              · intros; go_simp; exact ⟨rfl, rfl⟩
              refine stepV 9 rfl rfl (fun _ _ _ h => h) ?_ ?_
              · intros; go_simp; exact ⟨rfl, rfl⟩
              exact AllI.nil
            case hV0 => exact fun p q => AllI.nil
            case he =>
            clear hB v f d
            rintro p wrr ⟨hsz, hB, v, f, d⟩
            clear lt_v
            clear lt_f
            clear lt_d
            clear hsz hW0
            go_wp2_with (fail)
            go_roundg (3 - (k + 1))
            case rel =>
              exact ⟨k + 1, by omega, rfl, v, f, d, hB⟩
            case measure => omega
          · obtain rfl : k = 3 := by omega
            go_upto_region 18 with (fail)
            have lt_v := v.lt
            have lt_f := f.lt
            have lt_d := d.lt
            have hW0 : w.heap.size ≤ wr.heap.size := by have := hB.size; first | exact this | simpa using this
            apply wp_region_Q 4 [0, 1, 3, 7] [] [_, _, _, _] (fun p L w' => wr.heap.size ≤ w'.heap.size ∧ Below w.heap.size w w' ∧ blk w' w.heap.size (qfn q) 46 ∧ blk w' f_b (fltc (P, B)) 91 ∧ blk w' d_b (vfn B) 39) _ [(0, 66), (1, 67), (2, 68), (3, 69)] [0, 1, 2, 3]
            case hn => rfl
            case hB => kernel_rfl
            case hds => kernel_rfl
            case hA => (intro p; simp only [putsD, Act.put, List.setIfInBounds_toArray, List.set_cons_zero, List.set_cons_succ, List.getD_cons_zero, List.getD_cons_succ]; exact rfl)
            case h0 => exact fun p => ⟨Nat.le_refl _, hB, v, f, d⟩
            case hmore => exact fun p L w1 w2 ⟨hsz, hB, v, f, d⟩ hm => ⟨Nat.le_trans hsz hm.size, hB.trans (hm.mono (Nat.le_trans hW0 hsz)), v.below hm v.lt, f.below hm f.lt, d.below hm d.lt⟩
            case hs =>
              intro more
              refine stepV 0 rfl rfl (fun _ _ _ h => h) ?_ ?_
              · intros; go_simp; exact ⟨rfl, rfl⟩
              refine stepD 1 rfl (fun p => rfl) (fun _ _ _ h => h) more ?_ ?_
              · rintro p L w1 ⟨hsz, hB, v, f, d⟩ hk
                go_simp
                refine (AT.out _ f).mono ?_
                rintro e w2 ⟨rfl, h2⟩
                first | exact ⟨rfl, h2⟩ | (subst h2; exact ⟨rfl, Below.refl _ _⟩)
              refine stepD 2 rfl (fun p => rfl) (fun _ _ _ h => h) more ?_ ?_
              · rintro p L w1 ⟨hsz, hB, v, f, d⟩ hk
                go_simp
                refine (VA.out _).mono ?_
                rintro e w2 ⟨rfl, h2⟩
                first | exact ⟨rfl, h2⟩ | (subst h2; exact ⟨rfl, Below.refl _ _⟩)
              refine stepV 3 rfl rfl (fun _ _ _ h => h) ?_ ?_
              · intros; go_simp; exact ⟨rfl, rfl⟩
              exact AllI.nil
            case hV0 => exact fun p q => AllI.nil
            case he =>
            clear hB v f d
            rintro p wrr ⟨hsz, hB, v, f, d⟩
            clear lt_v
            clear lt_f
            clear lt_d
            clear hsz hW0
            go_wp2_with (fail)
            go_roundg (n - (K + 1))
            case rel => exact ⟨K + 1, P, B, by omega, rfl, FP, v, f, hB⟩
            case measure => omega
    · obtain rfl : K = n := by omega
      have hdK : decide ((K : Int) < K) = false := decide_eq_false (by omega)
      have hdK' : decide (K < K) = false := decide_eq_false (by omega)
      go_wp2_with (first
        | (refine wpList_load_rowG ?hw _ _ rfl _ rfl _ _ _ _ v Try.underlying46 rfl ?hi ?_; (case hw => (first | rfl | (simp [Region.wanted, yielded]; done))); (case hi => (first | kernel_rfl | (rw [qfn_size]; kernel_rfl))))
        | (go_at_call 25; with_reducible refine (AW.out _).mono ?_; rintro e w9 ⟨rfl, hb⟩; replace hB := hB.trans (hb.mono hB.size); replace v := v.below hb v.lt; replace f := f.below hb f.lt; clear hb))
      go_ret
      exact ⟨rfl, hB⟩
theorem gvalid_any (q : Nat → Int) (a : Option Addr) (n c : Nat) (x : Nat → Bool × (Nat → Int) × (Nat → Int)) (w : World) (el : ElemsA w a n 8 (fun k => (lok (x k)).toList)) (hx : ∀ k, k < n → Wlok (x k)) (hq : ∀ i, i < 4 → I64 (q i)) :
    Calls Try.prog 8 #[.agg (qfn q), .slice a n c] w fun e w' => e = .returned (.bool true) ∧ Below w.heap.size w w' := by
  cases hv : validQ q with
  | false => exact gvalid_no q a n c w hq hv
  | true =>
    by_cases hn : 60 < n
    · exact gvalid_long q a n c w hn hq hv
    · exact gvalid_ok q a n c x w (by omega) hv el hx hq
end Go.Proofs.Ytnkjbdfhdenbcaa
