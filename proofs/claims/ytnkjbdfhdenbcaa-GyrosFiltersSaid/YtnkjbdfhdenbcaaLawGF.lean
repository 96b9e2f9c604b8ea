/-
  Filters are as specified.
-/
import Derived.Test.YtnkjbdfhdenbcaaFil
import Derived.Test.YtnkjbdfhdenbcaaArgH
import Derived.Test.YtnkjbdfhdenbcaaAw21
set_option linter.unusedSimpArgs false
set_option linter.unusedVariables false
namespace Go.Proofs.Ytnkjbdfhdenbcaa
open Go.RowKit PM Dt
set_option maxRecDepth 100000 in
set_option maxHeartbeats 4000000 in
theorem gfilters_no (q : Nat → Int) (a : Option Addr) (n c : Nat) (w : World) (hn : 60 < n) : Calls Try.prog 7 #[.agg (qfn q), .slice a n c] w fun e w' => e = .returned (.bool true) ∧ Below w.heap.size w w' := by
  have AW := Lib.hid (fun w => awake21_any w)
  have d1 : decide ((60 : Int) < (n : Int)) = true := decide_eq_true (by omega)
  have d2 : decide (60 < n) = true := decide_eq_true hn
  go_enter Try.func7, Try.ntmps7
  go_upto_region 1 with (fail)
  have v : blk (w.alloc (.cells (qfn q) 46)) w.heap.size (qfn q) 46 := blk.new _ _ _
  have hB : Below w.heap.size w (w.alloc (.cells (qfn q) 46)) := by go_grown
  generalize (w.alloc (.cells (qfn q) 46)) = w0 at *
  go_wp2_with (first
    | (refine wpList_load_rowG ?hw _ _ rfl _ rfl _ _ _ _ v Try.underlying46 rfl ?hi ?_; (case hw => (first | rfl | (simp [Region.wanted, yielded]; done))); (case hi => (first | kernel_rfl | (rw [qfn_size]; kernel_rfl))))
    | (go_at_call 25; with_reducible refine (AW.out _).mono ?_; rintro e w9 ⟨rfl, hb⟩; replace hB := hB.trans (hb.mono hB.size); replace v := v.below hb v.lt; clear hb))
  go_ret
  exact ⟨rfl, hB⟩
set_option maxRecDepth 100000 in
set_option maxHeartbeats 4000000 in
theorem gfilters_in (q : Nat → Int) (a : Option Addr) (n c : Nat) (w : World) (hn : n ≤ 60) (hq : ∀ i, i < 4 → I64 (q i)) (hv : validQ q = false) : Calls Try.prog 7 #[.agg (qfn q), .slice a n c] w fun e w' => e = .returned (.bool true) ∧ Below w.heap.size w w' := by
  have AW := Lib.hid (fun w => awake21_any w)
  have d1 : decide ((60 : Int) < (n : Int)) = false := decide_eq_false (by omega)
  have d2 : decide (60 < n) = false := decide_eq_false (by omega)
  have NF := Lib.hid (fun w => fnew_no q w hq hv)
  have NR := Lib.hid (fun w => rfnew_no q w hq hv)
  clear hq hv
  go_enter Try.func7, Try.ntmps7
  go_upto_region 1 with (fail)
  have v : blk (w.alloc (.cells (qfn q) 46)) w.heap.size (qfn q) 46 := blk.new _ _ _
  have hB : Below w.heap.size w (w.alloc (.cells (qfn q) 46)) := by go_grown
  generalize (w.alloc (.cells (qfn q) 46)) = w0 at *
  go_upto_region 3 with (fail)
  have lt_v := v.lt
  have hW0 : w.heap.size ≤ w0.heap.size := by have := hB.size; first | exact this | simpa using this
  apply wp_region_Q 7 [0, 1, 3, 7, 15, 31, 63] [] [_, _, _, _, _, _, _] (fun p L w' => w0.heap.size ≤ w'.heap.size ∧ Below w.heap.size w w' ∧ blk w' w.heap.size (qfn q) 46) _ [(0, 15), (1, 16), (2, 14), (3, 17), (4, 18), (5, 5), (6, 6)] [0, 1, 2, 3, 4, 5, 6]
  case hn => rfl
  case hB => kernel_rfl
  case hds => kernel_rfl
  case hA => (intro p; simp only [putsD, Act.put, List.setIfInBounds_toArray, List.set_cons_zero, List.set_cons_succ, List.getD_cons_zero, List.getD_cons_succ]; exact rfl)
  case h0 => exact fun p => ⟨Nat.le_refl _, hB, v⟩
  case hmore => exact fun p L w1 w2 ⟨hsz, hB, v⟩ hm => ⟨Nat.le_trans hsz hm.size, hB.trans (hm.mono (Nat.le_trans hW0 hsz)), v.below hm v.lt⟩
  case hs =>
    intro more
    refine stepV 0 rfl rfl (fun _ _ _ h => h) ?_ ?_
    · rintro p L w1 ⟨hsz, hB, v⟩ hk
      first | exact valR_row _ _ rfl _ rfl _ _ v _ Try.underlying46 rfl (by first | kernel_rfl | (rw [qfn_size]; kernel_rfl)) rfl | (have hc := v.cellIs (qfn_get _ (show 0 < 4 by omega)); go_simp; exact ⟨rfl, rfl⟩)
    refine stepD 1 rfl (fun p => rfl) (fun _ _ _ h => h) more ?_ ?_
    · rintro p L w1 ⟨hsz, hB, v⟩ hk
      go_simp
      refine (NF.out _).mono ?_
      rintro e w2 ⟨rfl, h2⟩
      first | exact ⟨rfl, h2⟩ | (subst h2; exact ⟨rfl, Below.refl _ _⟩)
    refine stepV 2 rfl rfl (fun _ _ _ h => h) ?_ ?_
    · intros; go_simp; exact ⟨rfl, rfl⟩
    refine stepV 3 rfl rfl (fun _ _ _ h => h) ?_ ?_
    · intros; go_simp; exact ⟨rfl, rfl⟩
    refine stepV 4 rfl rfl (fun _ _ _ h => h) ?_ ?_
    · intros; go_simp; exact ⟨rfl, rfl⟩
    refine stepV 5 rfl rfl (fun _ _ _ h => h) ?_ ?_
    · intros; go_simp; exact ⟨rfl, rfl⟩
    refine stepV 6 rfl rfl (fun _ _ _ h => h) ?_ ?_
    · intros; go_simp; exact ⟨rfl, rfl⟩
    exact AllI.nil
  case hV0 => exact fun p q => AllI.nil
  case he =>
  clear hB v
  rintro p w0r ⟨hsz, hB, v⟩
  clear lt_v
  clear hsz hW0
  go_upto_region 4 with (fail)
  have lt_v := v.lt
  have hW0 : w.heap.size ≤ w0r.heap.size := by have := hB.size; first | exact this | simpa using this
  apply wp_region_Q 8 [0, 1, 3, 7, 15, 31, 63, 127] [5] [_, _, _, _, _, (fun p => .pointer (some ⟨p 5, 0, none⟩)), (fun _ => undef), _] (fun p L w' => w0r.heap.size ≤ w'.heap.size ∧ Below w.heap.size w w' ∧ blk w' w.heap.size (qfn q) 46 ∧ (L 5 = true → w0r.heap.size ≤ p 5 ∧ blk w' (p 5) (bif L 6 then (fltc (fun _ => 0, fun _ => 0)) else (fltc (fun _ => 0, fun _ => 0))) 74)) _ [(0, 20), (1, 21), (2, 19), (3, 22), (4, 23), (5, 7), (7, 8)] [0, 1, 2, 3, 4, 5, 6, 7]
  case hn => rfl
  case hB => kernel_rfl
  case hds => kernel_rfl
  case hA => (intro p; simp only [putsD, Act.put, List.setIfInBounds_toArray, List.set_cons_zero, List.set_cons_succ, List.getD_cons_zero, List.getD_cons_succ]; exact rfl)
  case h0 => exact fun p => ⟨Nat.le_refl _, hB, v, fun h => absurd h (by decide)⟩
  case hmore => exact fun p L w1 w2 ⟨hsz, hB, v, h_r⟩ hm => ⟨Nat.le_trans hsz hm.size, hB.trans (hm.mono (Nat.le_trans hW0 hsz)), v.below hm v.lt, fun hl => ⟨(h_r hl).1, (h_r hl).2.below hm (h_r hl).2.lt⟩⟩
  case hs =>
    intro more
    refine stepV 0 rfl rfl (fun _ _ _ h => h) ?_ ?_
    · rintro p L w1 ⟨hsz, hB, v, h_r⟩ hk
      have L6 : L 6 = false := hk.2.2 6 rfl
      first | exact valR_row _ _ rfl _ rfl _ _ v _ Try.underlying46 rfl (by first | kernel_rfl | (rw [qfn_size]; kernel_rfl)) rfl | (have hc := v.cellIs (qfn_get _ (show 0 < 4 by omega)); go_simp; exact ⟨rfl, rfl⟩)
    refine stepD 1 rfl (fun p => rfl) (fun _ _ _ h => h) more ?_ ?_
    · rintro p L w1 ⟨hsz, hB, v, h_r⟩ hk
      go_simp
      refine (NR.out _).mono ?_
      rintro e w2 ⟨rfl, h2⟩
      first | exact ⟨rfl, h2⟩ | (subst h2; exact ⟨rfl, Below.refl _ _⟩)
    refine stepV 2 rfl rfl (fun _ _ _ h => h) ?_ ?_
    · intros; go_simp; exact ⟨rfl, rfl⟩
    refine stepV 3 rfl rfl (fun _ _ _ h => h) ?_ ?_
    · intros; go_simp; exact ⟨rfl, rfl⟩
    refine stepV 4 rfl rfl (fun _ _ _ h => h) ?_ ?_
    · intros; go_simp; exact ⟨rfl, rfl⟩
    refine AllI.cons ?_ ?_
    · refine stepI_alloc 5 rfl (fun p => rfl) rfl (fltc (fun _ => 0, fun _ => 0)) 74 (fun p => rfl) ?_ ?_
      · intro p w1
        go_simp
        first | rfl | rw [fltc_zero]
      rintro p L w1 ⟨hsz, hB, v, h_r⟩ hk
      have L6 : L 6 = false := hk.2.2 6 rfl
      refine ⟨Nat.le_trans hsz (by simp), hB.alloc (Nat.le_trans (by first | exact hW0 | (have := hB.size; simp at this ⊢; omega)) hsz) _, v.alloc _, fun _ => ⟨hsz, ?_⟩⟩
      rw [show upL L 5 6 = false from L6]
      exact blk.new _ _ _
    refine AllI.cons ?_ ?_
    · refine stepI_store 6 rfl (fun p => rfl) (fun p => rfl) _ _ _ rfl (fun p => p 5) 0 (fun p => rfl) (fun p => (fltc (fun _ => 0, fun _ => 0))) (fun p => rfl) (fun p => (fltc (fun _ => 0, fun _ => 0))) (fun p => (fltc (fun _ => 0, fun _ => 0))) 74 (fun p => rfl) (fun p => by first | (rw [fltc_size, fltc_size]; decide) | simp [fltc_size, fltc_size]) (fun p => by rw [fltc_size]; kernel_rfl) (fun p => fltc_one _) ?_ ?_
      · rintro p L w1 ⟨hsz, hB, v, h_r⟩ hk
        have L6 : L 6 = false := hk.1
        have hh := (h_r (hk.2.1 5 rfl)).2
        rw [L6] at hh
        try simp only [cond_true, cond_false] at hh
        exact hh
      · rintro p L w1 ⟨hsz, hB, v, h_r⟩ hk
        have L6 : L 6 = false := hk.1
        skip
        have hp := h_r (hk.2.1 5 rfl)
        refine ⟨(by simpa using hsz), Below.setRow hB (by first | exact Nat.le_trans hW0 hp.1 | exact ge_r | omega | (have := hB.size; simp at this ⊢; omega)) _, v.rowOther (by first | exact Nat.ne_of_lt (Nat.lt_of_lt_of_le lt_v hp.1) | omega) _, fun _ => ⟨hp.1, ?_⟩⟩
        rw [show upL L 6 6 = true from rfl]
        exact hp.2.row _
    refine stepV 7 rfl rfl (fun _ _ _ h => h) ?_ ?_
    · intros; go_simp; exact ⟨rfl, rfl⟩
    exact AllI.nil
  case hV0 =>
    intro p q
    refine AllI.cons ?_ ?_
    · skip
      iterate 8 (refine AllI.cons (by first | exact .inl rfl | (refine .inr ?_; simp only [List.getD_cons_zero, List.getD_cons_succ]; done) | exact .inr rfl) ?_)
      exact AllI.nil
    exact AllI.nil
  case he =>
  clear hB v
  rintro p w0rr ⟨hsz, hB, v, h_r⟩
  obtain ⟨le_r, r⟩ := h_r rfl
  clear h_r
  replace r : blk w0rr (p 5) (fltc (fun _ => 0, fun _ => 0)) 74 := r
  have ne_v_r : w.heap.size ≠ p 5 := Nat.ne_of_lt (Nat.lt_of_lt_of_le lt_v le_r)
  have ge_r : w.heap.size ≤ p 5 := Nat.le_trans hW0 le_r
  generalize p 5 = r_b at *
  clear lt_v
  clear hsz hW0
  go_wp2_with (first
    | (refine wpList_load_rowG ?hw _ _ rfl _ rfl _ _ _ _ v Try.underlying46 rfl ?hi ?_; (case hw => (first | rfl | (simp [Region.wanted, yielded]; done))); (case hi => (first | kernel_rfl | (rw [qfn_size]; kernel_rfl))))
    | (refine wpList_load_rowG ?hw _ _ rfl _ rfl _ _ _ _ r Try.underlying74 rfl ?hi ?_; (case hw => (first | rfl | (simp [Region.wanted, yielded]; done))); (case hi => (first | kernel_rfl | (rw [fltc_size]; kernel_rfl))))
    | (go_at_call 25; with_reducible refine (AW.out _).mono ?_; rintro e w9 ⟨rfl, hb⟩; replace hB := hB.trans (hb.mono hB.size); replace v := v.below hb v.lt; replace r := r.below hb r.lt; clear hb))
  go_ret
  exact ⟨rfl, hB⟩
set_option maxRecDepth 100000 in
set_option maxHeartbeats 20000000 in
theorem gfilters_ok (q : Nat → Int) (a : Option Addr) (n c : Nat) (x : Nat → Bool × (Nat → Int) × (Nat → Int)) (w : World) (hn : n ≤ 60) (hv : validQ q = true) (el : ElemsA w a n 8 (fun k => (lok (x k)).toList)) (hx : ∀ k, k < n → Wlok (x k)) (hq : ∀ i, i < 4 → I64 (q i)) (hm : n ≤ maxLen) : Calls Try.prog 7 #[.agg (qfn q), .slice a n c] w fun e w' => e = .returned (.bool true) ∧ Below w.heap.size w w' := by
  have AW := Lib.hid (fun w => awake21_any w)
  have d1 : decide ((60 : Int) < (n : Int)) = false := decide_eq_false (by omega)
  have d2 : decide (60 < n) = false := decide_eq_false (by omega)
  have NF := Lib.hid (fun w => fnew_ok q w hq hv)
  have NR := Lib.hid (fun w => rfnew_ok q w hq hv)
  have FN := FI.new hq hv
  clear hq hv
  replace hx := Lib.hid hx
  replace el := Lib.hid el
  clear hm
  go_enter Try.func7, Try.ntmps7
  go_upto_region 1 with (fail)
  have v : blk (w.alloc (.cells (qfn q) 46)) w.heap.size (qfn q) 46 := blk.new _ _ _
  have hB : Below w.heap.size w (w.alloc (.cells (qfn q) 46)) := by go_grown
  generalize (w.alloc (.cells (qfn q) 46)) = w0 at *
  go_upto_region 3 with (fail)
  have lt_v := v.lt
  have hW0 : w.heap.size ≤ w0.heap.size := by have := hB.size; first | exact this | simpa using this
  apply wp_region_Q 7 [0, 1, 3, 7, 15, 31, 63] [1] [_, (fun p => (fun b => .tuple #[.pointer (some ⟨b, 0, none⟩), .int .i64 0]) (p 1)), _, _, _, _, _] (fun p L w' => w0.heap.size ≤ w'.heap.size ∧ Below w.heap.size w w' ∧ blk w' w.heap.size (qfn q) 46 ∧ (L 1 = true → w0.heap.size ≤ p 1 ∧ blk w' (p 1) (fltc (q, fun _ => 0)) 91)) _ [(0, 15), (1, 16), (2, 14), (3, 17), (4, 18), (5, 5), (6, 6)] [0, 1, 2, 3, 4, 5, 6]
  case hn => rfl
  case hB => kernel_rfl
  case hds => kernel_rfl
  case hA => (intro p; simp only [putsD, Act.put, List.setIfInBounds_toArray, List.set_cons_zero, List.set_cons_succ, List.getD_cons_zero, List.getD_cons_succ]; exact rfl)
  case h0 => exact fun p => ⟨Nat.le_refl _, hB, v, fun h => absurd h (by decide)⟩
  case hmore => exact fun p L w1 w2 ⟨hsz, hB, v, h_f⟩ hm => ⟨Nat.le_trans hsz hm.size, hB.trans (hm.mono (Nat.le_trans hW0 hsz)), v.below hm v.lt, fun hl => ⟨(h_f hl).1, (h_f hl).2.below hm (h_f hl).2.lt⟩⟩
  case hs =>
    intro more
    refine stepV 0 rfl rfl (fun _ _ _ h => h) ?_ ?_
    · rintro p L w1 ⟨hsz, hB, v, h_f⟩ hk
      first | exact valR_row _ _ rfl _ rfl _ _ v _ Try.underlying46 rfl (by first | kernel_rfl | (rw [qfn_size]; kernel_rfl)) rfl | (have hc := v.cellIs (qfn_get _ (show 0 < 4 by omega)); go_simp; exact ⟨rfl, rfl⟩)
    refine AllI.cons ?_ ?_
    · refine stepI_new 1 rfl (fun p => rfl) rfl (fun b => .tuple #[.pointer (some ⟨b, 0, none⟩), .int .i64 0]) (fltc (q, fun _ => 0)) 91 (fun p => rfl) ?_ ?_
      · rintro p L w1 ⟨hsz, hB, v, h_f⟩ hk
        go_simp
        refine (NF.out _).mono ?_
        rintro e w2 ⟨b, rfl, hb, hle, hm⟩
        exact ⟨_, rfl, b, rfl, hb, hle, hm⟩
      rintro p L w1 w2 b ⟨hsz, hB, v, h_f⟩ hk hb hle hm
      refine ⟨Nat.le_trans hsz hm.size, hB.trans (hm.mono (Nat.le_trans hW0 hsz)), v.below hm v.lt, fun _ => ⟨Nat.le_trans hsz hle, ?_⟩⟩
      exact hb
    refine stepV 2 rfl rfl (fun _ _ _ h => h) ?_ ?_
    · intros; go_simp; exact ⟨rfl, rfl⟩
    refine stepV 3 rfl rfl (fun _ _ _ h => h) ?_ ?_
    · intros; go_simp; exact ⟨rfl, rfl⟩
    refine stepV 4 rfl rfl (fun _ _ _ h => h) ?_ ?_
    · intros; go_simp; exact ⟨rfl, rfl⟩
    refine stepV 5 rfl rfl (fun _ _ _ h => h) ?_ ?_
    · intros; go_simp; exact ⟨rfl, rfl⟩
    refine stepV 6 rfl rfl (fun _ _ _ h => h) ?_ ?_
    · intros; go_simp; exact ⟨rfl, rfl⟩
    exact AllI.nil
  case hV0 =>
    intro p q
    refine AllI.cons ?_ ?_
    · skip
      iterate 7 (refine AllI.cons (by first | exact .inl rfl | (refine .inr ?_; simp only [List.getD_cons_zero, List.getD_cons_succ]; done) | exact .inr rfl) ?_)
      exact AllI.nil
    exact AllI.nil
  case he =>
  clear hB v
  rintro p w0r ⟨hsz, hB, v, h_f⟩
  obtain ⟨le_f, f⟩ := h_f rfl
  clear h_f
  replace f : blk w0r (p 1) (fltc (q, fun _ => 0)) 91 := f
  have ne_v_f : w.heap.size ≠ p 1 := Nat.ne_of_lt (Nat.lt_of_lt_of_le lt_v le_f)
  have ge_f : w.heap.size ≤ p 1 := Nat.le_trans hW0 le_f
  generalize p 1 = f_b at *
  clear lt_v
  clear hsz hW0
  go_upto_region 4 with (fail)
  have lt_v := v.lt
  have lt_f := f.lt
  have hW0 : w.heap.size ≤ w0r.heap.size := by have := hB.size; first | exact this | simpa using this
  apply wp_region_Q 8 [0, 1, 3, 7, 15, 31, 63, 127] [5] [_, _, _, _, _, (fun p => .pointer (some ⟨p 5, 0, none⟩)), (fun _ => undef), _] (fun p L w' => w0r.heap.size ≤ w'.heap.size ∧ Below w.heap.size w w' ∧ blk w' w.heap.size (qfn q) 46 ∧ blk w' f_b (fltc (q, fun _ => 0)) 91 ∧ (L 5 = true → w0r.heap.size ≤ p 5 ∧ blk w' (p 5) (bif L 6 then (fltc (q, fun _ => 0)) else (fltc (fun _ => 0, fun _ => 0))) 74)) _ [(0, 20), (1, 21), (2, 19), (3, 22), (4, 23), (5, 7), (7, 8)] [0, 1, 2, 3, 4, 5, 6, 7]
  case hn => rfl
  case hB => kernel_rfl
  case hds => kernel_rfl
  case hA => (intro p; simp only [putsD, Act.put, List.setIfInBounds_toArray, List.set_cons_zero, List.set_cons_succ, List.getD_cons_zero, List.getD_cons_succ]; exact rfl)
  case h0 => exact fun p => ⟨Nat.le_refl _, hB, v, f, fun h => absurd h (by decide)⟩
  case hmore => exact fun p L w1 w2 ⟨hsz, hB, v, f, h_r⟩ hm => ⟨Nat.le_trans hsz hm.size, hB.trans (hm.mono (Nat.le_trans hW0 hsz)), v.below hm v.lt, f.below hm f.lt, fun hl => ⟨(h_r hl).1, (h_r hl).2.below hm (h_r hl).2.lt⟩⟩
  case hs =>
    intro more
    refine stepV 0 rfl rfl (fun _ _ _ h => h) ?_ ?_
    · rintro p L w1 ⟨hsz, hB, v, f, h_r⟩ hk
      have L6 : L 6 = false := hk.2.2 6 rfl
      first | exact valR_row _ _ rfl _ rfl _ _ v _ Try.underlying46 rfl (by first | kernel_rfl | (rw [qfn_size]; kernel_rfl)) rfl | (have hc := v.cellIs (qfn_get _ (show 0 < 4 by omega)); go_simp; exact ⟨rfl, rfl⟩)
    refine stepD 1 rfl (fun p => rfl) (fun _ _ _ h => h) more ?_ ?_
    · rintro p L w1 ⟨hsz, hB, v, f, h_r⟩ hk
      go_simp
      refine (NR.out _).mono ?_
      rintro e w2 ⟨rfl, h2⟩
      first | exact ⟨rfl, h2⟩ | (subst h2; exact ⟨rfl, Below.refl _ _⟩)
    refine stepV 2 rfl rfl (fun _ _ _ h => h) ?_ ?_
    · intros; go_simp; exact ⟨rfl, rfl⟩
    refine stepV 3 rfl rfl (fun _ _ _ h => h) ?_ ?_
    · intros; go_simp; exact ⟨rfl, rfl⟩
    refine stepV 4 rfl rfl (fun _ _ _ h => h) ?_ ?_
    · intros; go_simp; exact ⟨rfl, rfl⟩
    refine AllI.cons ?_ ?_
    · refine stepI_alloc 5 rfl (fun p => rfl) rfl (fltc (fun _ => 0, fun _ => 0)) 74 (fun p => rfl) ?_ ?_
      · intro p w1
        go_simp
        first | rfl | rw [fltc_zero]
      rintro p L w1 ⟨hsz, hB, v, f, h_r⟩ hk
      have L6 : L 6 = false := hk.2.2 6 rfl
      refine ⟨Nat.le_trans hsz (by simp), hB.alloc (Nat.le_trans (by first | exact hW0 | (have := hB.size; simp at this ⊢; omega)) hsz) _, v.alloc _, f.alloc _, fun _ => ⟨hsz, ?_⟩⟩
      rw [show upL L 5 6 = false from L6]
      exact blk.new _ _ _
    refine AllI.cons ?_ ?_
    · refine stepI_store 6 rfl (fun p => rfl) (fun p => rfl) _ _ _ rfl (fun p => p 5) 0 (fun p => rfl) (fun p => (fltc (q, fun _ => 0))) (fun p => rfl) (fun p => (fltc (fun _ => 0, fun _ => 0))) (fun p => (fltc (q, fun _ => 0))) 74 (fun p => rfl) (fun p => by first | (rw [fltc_size, fltc_size]; decide) | simp [fltc_size, fltc_size]) (fun p => by rw [fltc_size]; kernel_rfl) (fun p => fltc_one _) ?_ ?_
      · rintro p L w1 ⟨hsz, hB, v, f, h_r⟩ hk
        have L6 : L 6 = false := hk.1
        have hh := (h_r (hk.2.1 5 rfl)).2
        rw [L6] at hh
        try simp only [cond_true, cond_false] at hh
        exact hh
      · rintro p L w1 ⟨hsz, hB, v, f, h_r⟩ hk
        have L6 : L 6 = false := hk.1
        skip
        have hp := h_r (hk.2.1 5 rfl)
        refine ⟨(by simpa using hsz), Below.setRow hB (by first | exact Nat.le_trans hW0 hp.1 | exact ge_r | omega | (have := hB.size; simp at this ⊢; omega)) _, v.rowOther (by first | exact Nat.ne_of_lt (Nat.lt_of_lt_of_le lt_v hp.1) | omega) _, f.rowOther (by first | exact Nat.ne_of_lt (Nat.lt_of_lt_of_le lt_f hp.1) | omega) _, fun _ => ⟨hp.1, ?_⟩⟩
        rw [show upL L 6 6 = true from rfl]
        exact hp.2.row _
    refine stepV 7 rfl rfl (fun _ _ _ h => h) ?_ ?_
    · intros; go_simp; exact ⟨rfl, rfl⟩
    exact AllI.nil
  case hV0 =>
    intro p q
    refine AllI.cons ?_ ?_
    · skip
      iterate 8 (refine AllI.cons (by first | exact .inl rfl | (refine .inr ?_; simp only [List.getD_cons_zero, List.getD_cons_succ]; done) | exact .inr rfl) ?_)
      exact AllI.nil
    exact AllI.nil
  case he =>
  clear hB v f
  rintro p w0rr ⟨hsz, hB, v, f, h_r⟩
  obtain ⟨le_r, r⟩ := h_r rfl
  clear h_r
  replace r : blk w0rr (p 5) (fltc (q, fun _ => 0)) 74 := r
  have ne_v_r : w.heap.size ≠ p 5 := Nat.ne_of_lt (Nat.lt_of_lt_of_le lt_v le_r)
  have ne_f_r : f_b ≠ p 5 := Nat.ne_of_lt (Nat.lt_of_lt_of_le lt_f le_r)
  have ge_r : w.heap.size ≤ p 5 := Nat.le_trans hW0 le_r
  generalize p 5 = r_b at *
  clear lt_v
  clear lt_f
  clear hsz hW0
  go_wp2_with (fail)
  go_loopg [9] n (fun g_ iv wr => ∃ K : Nat, ∃ Q B : Nat → Int, g_ + K = n ∧ iv = .int .i64 K ∧ FI Q B ∧ blk wr w.heap.size (qfn q) 46 ∧ blk wr f_b (fltc (Q, B)) 91 ∧ blk wr r_b (fltc (Q, B)) 74 ∧ Below w.heap.size w wr)
  case atStart => exact ⟨0, q, fun _ => 0, by omega, rfl, FN, v, f, r, hB⟩
  case round =>
    clear FN v f r hB NF NR
    obtain ⟨K, Q, B, hK, rfl, FQ, v, f, r, hB⟩ := hrel
    by_cases hKn : K < n
    · have hdK : decide ((K : Int) < n) = true := decide_eq_true (by omega)
      have hdK' : decide (K < n) = true := decide_eq_true hKn
      have hk3 : (K : Int) < n := by omega
      have hk0 : (0 : Int) ≤ K := by omega
      have hwK : IntKind.i64.wrap ((K : Int) + 1) = ((K + 1 : Nat) : Int) := by rw [IntKind.wrap_i64]; omega
      obtain ⟨eb, eo, rfl, hEl, hE⟩ := el.out K hKn
      obtain ⟨hxr, hxq⟩ := hx.out K hKn
      replace hE : w.rangeAt eb (eo + K * 8) ((lok (x K)).toList) := hE
      obtain ⟨S, hS⟩ : ∃ S, (x K).1 = S := ⟨_, rfl⟩
      have CO := Lib.hid (fun w (hg : blk w f_b (fltc (Q, B)) 91) => cor_any Q B (x K).2.2 f_b w hg FQ hxq)
      have RC := Lib.hid (fun w => rcor_any Q B (x K).2.2 w FQ hxq)
      have PD := Lib.hid (fun w (hg : blk w f_b (fltc (Q, B)) 91) => pred_any Q B (x K).2.1 f_b w hg FQ)
      have RP := Lib.hid (fun w => rpred_any Q B (x K).2.1 w FQ)
      have FC := FQ.cor hxq
      have FP := FQ.pred (x K).2.1
      clear hxr hxq FQ
      go_upto_region 12 with (fail)
      have lt_v := v.lt
      have lt_f := f.lt
      have lt_r := r.lt
      have hW0 : w.heap.size ≤ wr.heap.size := by have := hB.size; first | exact this | simpa using this
      apply wp_region_Q 5 [0, 1, 3, 7, 15] [] [_, _, _, _, _] (fun p L w' => wr.heap.size ≤ w'.heap.size ∧ Below w.heap.size w w' ∧ blk w' w.heap.size (qfn q) 46 ∧ blk w' f_b (fltc (Q, B)) 91 ∧ blk w' r_b (fltc (Q, B)) 74) _ [(0, 43), (1, 44), (2, 45), (3, 46), (4, 47)] [0, 1, 2, 3, 4]
      case hn => rfl
      case hB => kernel_rfl
      case hds => kernel_rfl
      case hA => (intro p; simp only [putsD, Act.put, List.setIfInBounds_toArray, List.set_cons_zero, List.set_cons_succ, List.getD_cons_zero, List.getD_cons_succ]; exact rfl)
      case h0 => exact fun p => ⟨Nat.le_refl _, hB, v, f, r⟩
      case hmore => exact fun p L w1 w2 ⟨hsz, hB, v, f, r⟩ hm => ⟨Nat.le_trans hsz hm.size, hB.trans (hm.mono (Nat.le_trans hW0 hsz)), v.below hm v.lt, f.below hm f.lt, r.below hm r.lt⟩
      case hs =>
        intro more
        refine stepV 0 rfl rfl (fun _ _ _ h => h) ?_ ?_
        · intros; go_simp; exact ⟨rfl, rfl⟩
        refine stepV 1 rfl rfl (fun _ _ _ h => h) ?_ ?_
        · intros; go_simp; exact ⟨rfl, rfl⟩
        refine stepV 2 rfl rfl (fun _ _ _ h => h) ?_ ?_
        · intros; go_simp; exact ⟨rfl, rfl⟩
        refine stepV 3 rfl rfl (fun _ _ _ h => h) ?_ ?_
        · intros; go_simp; exact ⟨rfl, rfl⟩
        refine stepV 4 rfl rfl (fun _ _ _ h => h) ?_ ?_
        · rintro p L w1 ⟨hsz, hB, v, f, r⟩ hk
          have hr := range_below hE hB hEl
          have hc : w1.cell? ⟨eb, eo + K * 8, none⟩ = some (.bool (x K).1) := hr 0 _ rfl
          go_simp
          exact ⟨rfl, rfl⟩
        exact AllI.nil
      case hV0 => exact fun p q => AllI.nil
      case he =>
      clear hB v f r
      rintro p wrr ⟨hsz, hB, v, f, r⟩
      clear lt_v
      clear lt_f
      clear lt_r
      clear hsz hW0
      try rw [hS]
      cases S with
      | true =>
        go_upto_region 13 with (fail)
        have lt_v := v.lt
        have lt_f := f.lt
        have lt_r := r.lt
        have hW0 : w.heap.size ≤ wrr.heap.size := by have := hB.size; first | exact this | simpa using this
        apply wp_region_Q 8 [0, 1, 3, 7, 15, 31, 63, 127] [] [_, _, _, _, _, _, _, _] (fun p L w' => wrr.heap.size ≤ w'.heap.size ∧ Below w.heap.size w w' ∧ blk w' w.heap.size (qfn q) 46 ∧ blk w' f_b (bif L 6 then (fltc (corQ Q (x K).2.2, corB Q B (x K).2.2)) else (fltc (Q, B))) 91 ∧ blk w' r_b (fltc (Q, B)) 74) _ [(0, 48), (1, 49), (2, 50), (3, 51), (4, 52), (5, 53), (6, 54), (7, 6)] [0, 1, 2, 3, 4, 5, 6, 7]
        case hn => rfl
        case hB => kernel_rfl
        case hds => kernel_rfl
        case hA => (intro p; simp only [putsD, Act.put, List.setIfInBounds_toArray, List.set_cons_zero, List.set_cons_succ, List.getD_cons_zero, List.getD_cons_succ]; exact rfl)
        case h0 => exact fun p => ⟨Nat.le_refl _, hB, v, f, r⟩
        case hmore => exact fun p L w1 w2 ⟨hsz, hB, v, f, r⟩ hm => ⟨Nat.le_trans hsz hm.size, hB.trans (hm.mono (Nat.le_trans hW0 hsz)), v.below hm v.lt, f.below hm f.lt, r.below hm r.lt⟩
        case hs =>
          intro more
          refine stepV 0 rfl rfl (fun _ _ _ h => h) ?_ ?_
          · intros; go_simp; exact ⟨rfl, rfl⟩
          refine stepV 1 rfl rfl (fun _ _ _ h => h) ?_ ?_
          · intros; go_simp; exact ⟨rfl, rfl⟩
          refine stepV 2 rfl rfl (fun _ _ _ h => h) ?_ ?_
          · intros; go_simp; exact ⟨rfl, rfl⟩
          refine stepV 3 rfl rfl (fun _ _ _ h => h) ?_ ?_
          · intros; go_simp; exact ⟨rfl, rfl⟩
          refine stepV 4 rfl rfl (fun _ _ _ h => h) ?_ ?_
          · intros; go_simp; exact ⟨rfl, rfl⟩
          refine stepV 5 rfl rfl (fun _ _ _ h => h) ?_ ?_
          · rintro p L w1 ⟨hsz, hB, v, f, r⟩ hk
            have hr := range_below hE hB hEl
            exact valR_range _ _ rfl _ _ rfl _ (eo + K * 8) 4 hr (by first | rfl | omega) (qfn (x K).2.2) (lok_qL (x K)) _ Try.underlying46 rfl (by rw [qfn_size]; kernel_rfl) rfl
          refine AllI.cons ?_ ?_
          · refine stepI_mut 6 rfl (fun p => rfl) (fun _ => f_b) (fun p => (fltc (corQ Q (x K).2.2, corB Q B (x K).2.2))) ?_ ?_
            · rintro p L w1 ⟨hsz, hB, v, f, r⟩ hk
              have L6 : L 6 = false := hk.1
              rw [L6] at f
              try simp only [cond_true, cond_false] at f
              go_simp
              refine (CO.out _ f).mono ?_
              rintro e w2 ⟨rfl, h2⟩
              exact ⟨rfl, h2⟩
            · rintro p L w1 w2 ⟨hsz, hB, v, f, r⟩ hk hm
              have L6 : L 6 = false := hk.1
              refine ⟨Nat.le_trans hsz (by have := hm.size; simpa using this), (Below.setRow hB (by first | exact Nat.le_trans hW0 hp.1 | exact ge_f | omega | (have := hB.size; simp at this ⊢; omega)) _).trans (hm.mono (Nat.le_trans hW0 hsz)), (v.rowOther (by first | exact ne_v_f | exact Ne.symm ne_f_v | omega) _).below hm (by simpa using v.lt), ?_, (r.rowOther (by first | exact ne_r_f | exact Ne.symm ne_f_r | omega) _).below hm (by simpa using r.lt)⟩
              rw [show upL L 6 6 = true from rfl]
              exact (f.row _).below hm (by simpa using f.lt)
          refine stepV 7 rfl rfl (fun _ _ _ h => h) ?_ ?_
          · intros; go_simp; exact ⟨rfl, rfl⟩
          exact AllI.nil
        case hV0 => exact fun p q => AllI.nil
        case he =>
        clear hB v f r
        rintro p wrrr ⟨hsz, hB, v, f, r⟩
        replace f : blk wrrr f_b (fltc (corQ Q (x K).2.2, corB Q B (x K).2.2)) 91 := f
        clear lt_v
        clear lt_f
        clear lt_r
        clear hsz hW0
        go_upto_region 14 with (fail)
        have lt_v := v.lt
        have lt_f := f.lt
        have lt_r := r.lt
        have hW0 : w.heap.size ≤ wrrr.heap.size := by have := hB.size; first | exact this | simpa using this
        apply wp_region_I 12 [0, 0, 0, 6, 14, 30, 63, 127, 255, 255, 511, 2047] [] [_, _, _, _, _, _, _, _, _, _, (fun _ => undef), _] (fun p L w' => wrrr.heap.size ≤ w'.heap.size ∧ Below w.heap.size w w' ∧ blk w' w.heap.size (qfn q) 46 ∧ blk w' f_b (fltc (corQ Q (x K).2.2, corB Q B (x K).2.2)) 91 ∧ blk w' r_b (bif L 10 then (fltc (corQ Q (x K).2.2, corB Q B (x K).2.2)) else (fltc (Q, B))) 74) _ [(0, 56), (1, 57), (2, 58), (3, 59), (4, 60), (5, 61), (6, 62), (7, 55), (8, 63), (9, 64), (11, 8)] [0, 1, 2, 3, 4, 5, 6, 7, 8, 9, 10, 11]
        case hn => rfl
        case hm => kernel_rfl
        case hB => kernel_rfl
        case hds => kernel_rfl
        case hA => (intro p; simp only [putsD, Act.put, List.setIfInBounds_toArray, List.set_cons_zero, List.set_cons_succ, List.getD_cons_zero, List.getD_cons_succ]; exact rfl)
        case h0 => exact fun p => ⟨Nat.le_refl _, hB.drew, v.drew, f.drew, r.drew⟩
        case hmore => exact fun p L w1 w2 ⟨hsz, hB, v, f, r⟩ hm => ⟨Nat.le_trans hsz hm.size, hB.trans (hm.mono (Nat.le_trans hW0 hsz)), v.below hm v.lt, f.below hm f.lt, r.below hm r.lt⟩
        case hs =>
          intro more
          refine stepV 0 rfl rfl (fun _ _ _ h => h) ?_ ?_
          · rintro p L w1 ⟨hsz, hB, v, f, r⟩ hk
            have L10 : L 10 = false := hk.2.2 10 rfl
            rw [L10] at r
            try simp only [cond_true, cond_false] at r
            first | exact valR_row _ _ rfl _ rfl _ _ r _ Try.underlying74 rfl (by first | kernel_rfl | (rw [fltc_size]; kernel_rfl)) rfl | (have hc := r.cellIs (show _[0]? = some _ from rfl); go_simp; exact ⟨rfl, rfl⟩)
          refine stepV 1 rfl rfl (fun _ _ _ h => h) ?_ ?_
          · intros; go_simp; exact ⟨rfl, rfl⟩
          refine stepV 2 rfl rfl (fun _ _ _ h => h) ?_ ?_
          · intros; go_simp; exact ⟨rfl, rfl⟩
          refine stepV 3 rfl rfl (fun _ _ _ h => h) ?_ ?_
          · intros; go_simp; exact ⟨rfl, rfl⟩
          refine stepV 4 rfl rfl (fun _ _ _ h => h) ?_ ?_
          · intros; go_simp; exact ⟨rfl, rfl⟩
          refine stepV 5 rfl rfl (fun _ _ _ h => h) ?_ ?_
          · rintro p L w1 ⟨hsz, hB, v, f, r⟩ hk
            have hr := range_below hE hB hEl
            exact valR_range _ _ rfl _ _ rfl _ (eo + K * 8) 4 hr (by first | rfl | omega) (qfn (x K).2.2) (lok_qL (x K)) _ Try.underlying46 rfl (by rw [qfn_size]; kernel_rfl) rfl
          refine stepD 6 rfl (fun p => rfl) (fun _ _ _ h => h) more ?_ ?_
          · rintro p L w1 ⟨hsz, hB, v, f, r⟩ hk
            go_simp
            refine (RC.out _).mono ?_
            rintro e w2 ⟨rfl, h2⟩
            first | exact ⟨rfl, h2⟩ | (subst h2; exact ⟨rfl, Below.refl _ _⟩)
          refine stepV 7 rfl rfl (fun _ _ _ h => h) ?_ ?_
          · intros; go_simp; exact ⟨rfl, rfl⟩
          refine stepV 8 rfl rfl (fun _ _ _ h => h) ?_ ?_
          · intros; go_simp; exact ⟨rfl, rfl⟩
          refine stepV 9 rfl rfl (fun _ _ _ h => h) ?_ ?_
          · intros; go_simp; exact ⟨rfl, rfl⟩
          refine AllI.cons ?_ ?_
          · refine stepI_store 10 rfl (fun p => rfl) (fun p => rfl) _ _ _ rfl (fun _ => r_b) 0 (fun p => rfl) (fun p => (fltc (corQ Q (x K).2.2, corB Q B (x K).2.2))) (fun p => rfl) (fun p => (fltc (Q, B))) (fun p => (fltc (corQ Q (x K).2.2, corB Q B (x K).2.2))) 74 (fun p => rfl) (fun p => by first | (rw [fltc_size, fltc_size]; decide) | simp [fltc_size, fltc_size]) (fun p => by rw [fltc_size]; kernel_rfl) (fun p => fltc_one _) ?_ ?_
            · rintro p L w1 ⟨hsz, hB, v, f, r⟩ hk
              have L10 : L 10 = false := hk.1
              rw [L10] at r
              try simp only [cond_true, cond_false] at r
              exact r
            · rintro p L w1 ⟨hsz, hB, v, f, r⟩ hk
              have L10 : L 10 = false := hk.1
              skip
              refine ⟨(by simpa using hsz), Below.setRow hB (by first | exact Nat.le_trans hW0 hp.1 | exact ge_r | omega | (have := hB.size; simp at this ⊢; omega)) _, v.rowOther (by first | exact ne_v_r | exact Ne.symm ne_r_v | omega) _, f.rowOther (by first | exact ne_f_r | exact Ne.symm ne_r_f | omega) _, ?_⟩
              rw [show upL L 10 10 = true from rfl]
              exact r.row _
          refine stepV 11 rfl rfl (fun _ _ _ h => h) ?_ ?_
          · intros; go_simp; exact ⟨rfl, rfl⟩
          exact AllI.nil
        case hV0 => exact fun p q => AllI.nil
        case he =>
        clear hB v f r
        rintro p wrrrr ⟨hsz, hB, v, f, r⟩
        replace r : blk wrrrr r_b (fltc (corQ Q (x K).2.2, corB Q B (x K).2.2)) 74 := r
        clear lt_v
        clear lt_f
        clear lt_r
        clear hsz hW0
        clear CO RC PD RP FP hE
        generalize corQ Q (x K).2.2 = Q2 at *
        generalize corB Q B (x K).2.2 = B2 at *
        have AT := Lib.hid (fun w (hg : blk w f_b (fltc (Q2, B2)) 91) => fattitude_any Q2 B2 f_b w hg FC.nz)
        have BI := Lib.hid (fun w (hg : blk w f_b (fltc (Q2, B2)) 91) => fbias_any Q2 B2 f_b w hg FC.nz)
        go_upto_region 17 with (fail)
        have E1 := quat_eq_self Q2
        have E2 := vec_eq_self B2
        have lt_v := v.lt
        have lt_f := f.lt
        have lt_r := r.lt
        have hW0 : w.heap.size ≤ wrrrr.heap.size := by have := hB.size; first | exact this | simpa using this
        apply wp_region_I 17 [0, 0, 3, 7, 15, 31, 15, 79, 255, 511, 1023, 2047, 4095, 2047, 10239, 32767, 65535] [] [_, _, _, _, _, _, _, _, _, _, _, _, _, _, _, _, _] (fun p L w' => wrrrr.heap.size ≤ w'.heap.size ∧ Below w.heap.size w w' ∧ blk w' w.heap.size (qfn q) 46 ∧ blk w' f_b (fltc (Q2, B2)) 91 ∧ blk w' r_b (fltc (Q2, B2)) 74) _ [(0, 82), (1, 83), (2, 84), (3, 85), (4, 86), (5, 87), (6, 88), (7, 89), (8, 90), (9, 91), (10, 92), (11, 93), (12, 94), (13, 95), (14, 96), (15, 97), (16, 98)] [0, 1, 2, 3, 4, 5, 6, 7, 8, 9, 10, 11, 12, 13, 14, 15, 16]
        case hn => rfl
        case hm => kernel_rfl
        case hB => kernel_rfl
        case hds => kernel_rfl
        case hA => (intro p; simp only [putsD, Act.put, List.setIfInBounds_toArray, List.set_cons_zero, List.set_cons_succ, List.getD_cons_zero, List.getD_cons_succ]; exact rfl)
        case h0 => exact fun p => ⟨Nat.le_refl _, hB.drew, v.drew, f.drew, r.drew⟩
        case hmore => exact fun p L w1 w2 ⟨hsz, hB, v, f, r⟩ hm => ⟨Nat.le_trans hsz hm.size, hB.trans (hm.mono (Nat.le_trans hW0 hsz)), v.below hm v.lt, f.below hm f.lt, r.below hm r.lt⟩
        case hs =>
          intro more
          refine stepV 0 rfl rfl (fun _ _ _ h => h) ?_ ?_
          · intros; go_simp; exact ⟨rfl, rfl⟩
          refine stepV 1 rfl rfl (fun _ _ _ h => h) ?_ ?_
          · intros; go_simp; exact ⟨rfl, rfl⟩
          refine stepV 2 rfl rfl (fun _ _ _ h => h) ?_ ?_
          · intros; go_simp; exact ⟨rfl, rfl⟩
          refine stepV 3 rfl rfl (fun _ _ _ h => h) ?_ ?_
          · intros; go_simp; exact ⟨rfl, rfl⟩
          refine stepVg 4 rfl (fun p => (by first | rfl | (simp [Region.wanted, yielded]; done))) (fun _ _ _ h => h) ?_ ?_
          · intros; go_simp; exact ⟨rfl, rfl⟩
          refine stepD 5 rfl (fun p => (by first | rfl | (simp [Region.wanted, yielded]; done))) (fun _ _ _ h => h) more ?_ ?_
          · rintro p L w1 ⟨hsz, hB, v, f, r⟩ hk
            go_simp
            refine (AT.out _ f).mono ?_
            rintro e w2 ⟨rfl, h2⟩
            first | exact ⟨rfl, h2⟩ | (subst h2; exact ⟨rfl, Below.refl _ _⟩)
          refine stepVg 6 rfl (fun p => (by first | rfl | (simp [Region.wanted, yielded]; done))) (fun _ _ _ h => h) ?_ ?_
          · intros; go_simp; exact ⟨rfl, rfl⟩
          refine stepVg 7 rfl (fun p => (by first | rfl | (simp [Region.wanted, yielded]; done))) (fun _ _ _ h => h) ?_ ?_
          · rintro p L w1 ⟨hsz, hB, v, f, r⟩ hk
            exact valR_part _ _ rfl _ 0 rfl _ _ r (qfn Q2) (flt_q Q2 B2) _ Try.underlying46 rfl (by rw [qfn_size]; kernel_rfl) rfl
          refine stepVg 8 rfl (fun p => (by first | rfl | (simp [Region.wanted, yielded]; done))) (fun _ _ _ h => h) ?_ ?_
          · intros; go_simp; exact ⟨rfl, rfl⟩
          refine stepV 9 rfl rfl (fun _ _ _ h => h) ?_ ?_
          · intros; go_simp; exact ⟨rfl, rfl⟩
          refine stepV 10 rfl rfl (fun _ _ _ h => h) ?_ ?_
          · intros; go_simp; exact ⟨rfl, rfl⟩
          refine stepVg 11 rfl (fun p => (by first | rfl | (simp [Region.wanted, yielded]; done))) (fun _ _ _ h => h) ?_ ?_
          · intros; go_simp; exact ⟨rfl, rfl⟩
          refine stepD 12 rfl (fun p => (by first | rfl | (simp [Region.wanted, yielded]; done))) (fun _ _ _ h => h) more ?_ ?_
          · rintro p L w1 ⟨hsz, hB, v, f, r⟩ hk
            go_simp
            refine (BI.out _ f).mono ?_
            rintro e w2 ⟨rfl, h2⟩
            first | exact ⟨rfl, h2⟩ | (subst h2; exact ⟨rfl, Below.refl _ _⟩)
          refine stepVg 13 rfl (fun p => (by first | rfl | (simp [Region.wanted, yielded]; done))) (fun _ _ _ h => h) ?_ ?_
          · intros; go_simp; exact ⟨rfl, rfl⟩
          refine stepVg 14 rfl (fun p => (by first | rfl | (simp [Region.wanted, yielded]; done))) (fun _ _ _ h => h) ?_ ?_
          · rintro p L w1 ⟨hsz, hB, v, f, r⟩ hk
            exact valR_part _ _ rfl _ 4 rfl _ _ r (vfn B2) (flt_b Q2 B2) _ Try.underlying39 rfl (by rw [vfn_size]; kernel_rfl) rfl
          refine stepVg 15 rfl (fun p => (by first | rfl | (simp [Region.wanted, yielded]; done))) (fun _ _ _ h => h) ?_ ?_
          · intros; go_simp; exact ⟨rfl, rfl⟩
          refine stepV 16 rfl rfl (fun _ _ _ h => h) ?_ ?_
          · intros; go_simp; exact ⟨rfl, rfl⟩
          exact AllI.nil
        case hV0 => exact fun p q => AllI.nil
        case he =>
        clear hB v f r
        rintro p wrrrrr ⟨hsz, hB, v, f, r⟩
        clear lt_v
        clear lt_f
        clear lt_r
        clear hsz hW0
        clear E1 E2 AT BI
        go_wp2_with (fail)
        go_roundg (n - (K + 1))
        case rel => exact ⟨K + 1, Q2, B2, by omega, rfl, FC, v, f, r, hB⟩
        case measure => omega
      | false =>
        go_upto_region 15 with (fail)
        have lt_v := v.lt
        have lt_f := f.lt
        have lt_r := r.lt
        have hW0 : w.heap.size ≤ wrr.heap.size := by have := hB.size; first | exact this | simpa using this
        apply wp_region_Q 8 [0, 1, 3, 7, 15, 31, 63, 127] [] [_, _, _, _, _, _, _, _] (fun p L w' => wrr.heap.size ≤ w'.heap.size ∧ Below w.heap.size w w' ∧ blk w' w.heap.size (qfn q) 46 ∧ blk w' f_b (bif L 6 then (fltc (predQ Q B (x K).2.1, B)) else (fltc (Q, B))) 91 ∧ blk w' r_b (fltc (Q, B)) 74) _ [(0, 65), (1, 66), (2, 67), (3, 68), (4, 69), (5, 70), (6, 71), (7, 6)] [0, 1, 2, 3, 4, 5, 6, 7]
        case hn => rfl
        case hB => kernel_rfl
        case hds => kernel_rfl
        case hA => (intro p; simp only [putsD, Act.put, List.setIfInBounds_toArray, List.set_cons_zero, List.set_cons_succ, List.getD_cons_zero, List.getD_cons_succ]; exact rfl)
        case h0 => exact fun p => ⟨Nat.le_refl _, hB, v, f, r⟩
        case hmore => exact fun p L w1 w2 ⟨hsz, hB, v, f, r⟩ hm => ⟨Nat.le_trans hsz hm.size, hB.trans (hm.mono (Nat.le_trans hW0 hsz)), v.below hm v.lt, f.below hm f.lt, r.below hm r.lt⟩
        case hs =>
          intro more
          refine stepV 0 rfl rfl (fun _ _ _ h => h) ?_ ?_
          · intros; go_simp; exact ⟨rfl, rfl⟩
          refine stepV 1 rfl rfl (fun _ _ _ h => h) ?_ ?_
          · intros; go_simp; exact ⟨rfl, rfl⟩
          refine stepV 2 rfl rfl (fun _ _ _ h => h) ?_ ?_
          · intros; go_simp; exact ⟨rfl, rfl⟩
          refine stepV 3 rfl rfl (fun _ _ _ h => h) ?_ ?_
          · intros; go_simp; exact ⟨rfl, rfl⟩
          refine stepV 4 rfl rfl (fun _ _ _ h => h) ?_ ?_
          · intros; go_simp; exact ⟨rfl, rfl⟩
          refine stepV 5 rfl rfl (fun _ _ _ h => h) ?_ ?_
          · rintro p L w1 ⟨hsz, hB, v, f, r⟩ hk
            have hr := range_below hE hB hEl
            exact valR_range _ _ rfl _ _ rfl _ (eo + K * 8) 1 hr (by first | rfl | omega) (vfn (x K).2.1) (lok_rL (x K)) _ Try.underlying39 rfl (by rw [vfn_size]; kernel_rfl) rfl
          refine AllI.cons ?_ ?_
          · refine stepI_mut 6 rfl (fun p => rfl) (fun _ => f_b) (fun p => (fltc (predQ Q B (x K).2.1, B))) ?_ ?_
            · rintro p L w1 ⟨hsz, hB, v, f, r⟩ hk
              have L6 : L 6 = false := hk.1
              rw [L6] at f
              try simp only [cond_true, cond_false] at f
              go_simp
              refine (PD.out _ f).mono ?_
              rintro e w2 ⟨rfl, h2⟩
              exact ⟨rfl, h2⟩
            · rintro p L w1 w2 ⟨hsz, hB, v, f, r⟩ hk hm
              have L6 : L 6 = false := hk.1
              refine ⟨Nat.le_trans hsz (by have := hm.size; simpa using this), (Below.setRow hB (by first | exact Nat.le_trans hW0 hp.1 | exact ge_f | omega | (have := hB.size; simp at this ⊢; omega)) _).trans (hm.mono (Nat.le_trans hW0 hsz)), (v.rowOther (by first | exact ne_v_f | exact Ne.symm ne_f_v | omega) _).below hm (by simpa using v.lt), ?_, (r.rowOther (by first | exact ne_r_f | exact Ne.symm ne_f_r | omega) _).below hm (by simpa using r.lt)⟩
              rw [show upL L 6 6 = true from rfl]
              exact (f.row _).below hm (by simpa using f.lt)
          refine stepV 7 rfl rfl (fun _ _ _ h => h) ?_ ?_
          · intros; go_simp; exact ⟨rfl, rfl⟩
          exact AllI.nil
        case hV0 => exact fun p q => AllI.nil
        case he =>
        clear hB v f r
        rintro p wrrr ⟨hsz, hB, v, f, r⟩
        replace f : blk wrrr f_b (fltc (predQ Q B (x K).2.1, B)) 91 := f
        clear lt_v
        clear lt_f
        clear lt_r
        clear hsz hW0
        go_upto_region 16 with (fail)
        have lt_v := v.lt
        have lt_f := f.lt
        have lt_r := r.lt
        have hW0 : w.heap.size ≤ wrrr.heap.size := by have := hB.size; first | exact this | simpa using this
        apply wp_region_I 12 [0, 0, 0, 6, 14, 30, 63, 127, 255, 255, 511, 2047] [] [_, _, _, _, _, _, _, _, _, _, (fun _ => undef), _] (fun p L w' => wrrr.heap.size ≤ w'.heap.size ∧ Below w.heap.size w w' ∧ blk w' w.heap.size (qfn q) 46 ∧ blk w' f_b (fltc (predQ Q B (x K).2.1, B)) 91 ∧ blk w' r_b (bif L 10 then (fltc (predQ Q B (x K).2.1, B)) else (fltc (Q, B))) 74) _ [(0, 73), (1, 74), (2, 75), (3, 76), (4, 77), (5, 78), (6, 79), (7, 72), (8, 80), (9, 81), (11, 8)] [0, 1, 2, 3, 4, 5, 6, 7, 8, 9, 10, 11]
        case hn => rfl
        case hm => kernel_rfl
        case hB => kernel_rfl
        case hds => kernel_rfl
        case hA => (intro p; simp only [putsD, Act.put, List.setIfInBounds_toArray, List.set_cons_zero, List.set_cons_succ, List.getD_cons_zero, List.getD_cons_succ]; exact rfl)
        case h0 => exact fun p => ⟨Nat.le_refl _, hB.drew, v.drew, f.drew, r.drew⟩
        case hmore => exact fun p L w1 w2 ⟨hsz, hB, v, f, r⟩ hm => ⟨Nat.le_trans hsz hm.size, hB.trans (hm.mono (Nat.le_trans hW0 hsz)), v.below hm v.lt, f.below hm f.lt, r.below hm r.lt⟩
        case hs =>
          intro more
          refine stepV 0 rfl rfl (fun _ _ _ h => h) ?_ ?_
          · rintro p L w1 ⟨hsz, hB, v, f, r⟩ hk
            have L10 : L 10 = false := hk.2.2 10 rfl
            rw [L10] at r
            try simp only [cond_true, cond_false] at r
            first | exact valR_row _ _ rfl _ rfl _ _ r _ Try.underlying74 rfl (by first | kernel_rfl | (rw [fltc_size]; kernel_rfl)) rfl | (have hc := r.cellIs (show _[0]? = some _ from rfl); go_simp; exact ⟨rfl, rfl⟩)
          refine stepV 1 rfl rfl (fun _ _ _ h => h) ?_ ?_
          · intros; go_simp; exact ⟨rfl, rfl⟩
          refine stepV 2 rfl rfl (fun _ _ _ h => h) ?_ ?_
          · intros; go_simp; exact ⟨rfl, rfl⟩
          refine stepV 3 rfl rfl (fun _ _ _ h => h) ?_ ?_
          · intros; go_simp; exact ⟨rfl, rfl⟩
          refine stepV 4 rfl rfl (fun _ _ _ h => h) ?_ ?_
          · intros; go_simp; exact ⟨rfl, rfl⟩
          refine stepV 5 rfl rfl (fun _ _ _ h => h) ?_ ?_
          · rintro p L w1 ⟨hsz, hB, v, f, r⟩ hk
            have hr := range_below hE hB hEl
            exact valR_range _ _ rfl _ _ rfl _ (eo + K * 8) 1 hr (by first | rfl | omega) (vfn (x K).2.1) (lok_rL (x K)) _ Try.underlying39 rfl (by rw [vfn_size]; kernel_rfl) rfl
          refine stepD 6 rfl (fun p => rfl) (fun _ _ _ h => h) more ?_ ?_
          · rintro p L w1 ⟨hsz, hB, v, f, r⟩ hk
            go_simp
            refine (RP.out _).mono ?_
            rintro e w2 ⟨rfl, h2⟩
            first | exact ⟨rfl, h2⟩ | (subst h2; exact ⟨rfl, Below.refl _ _⟩)
          refine stepV 7 rfl rfl (fun _ _ _ h => h) ?_ ?_
          · intros; go_simp; exact ⟨rfl, rfl⟩
          refine stepV 8 rfl rfl (fun _ _ _ h => h) ?_ ?_
          · intros; go_simp; exact ⟨rfl, rfl⟩
          refine stepV 9 rfl rfl (fun _ _ _ h => h) ?_ ?_
          · intros; go_simp; exact ⟨rfl, rfl⟩
          refine AllI.cons ?_ ?_
          · refine stepI_store 10 rfl (fun p => rfl) (fun p => rfl) _ _ _ rfl (fun _ => r_b) 0 (fun p => rfl) (fun p => (fltc (predQ Q B (x K).2.1, B))) (fun p => rfl) (fun p => (fltc (Q, B))) (fun p => (fltc (predQ Q B (x K).2.1, B))) 74 (fun p => rfl) (fun p => by first | (rw [fltc_size, fltc_size]; decide) | simp [fltc_size, fltc_size]) (fun p => by rw [fltc_size]; kernel_rfl) (fun p => fltc_one _) ?_ ?_
            · rintro p L w1 ⟨hsz, hB, v, f, r⟩ hk
              have L10 : L 10 = false := hk.1
              rw [L10] at r
              try simp only [cond_true, cond_false] at r
              exact r
            · rintro p L w1 ⟨hsz, hB, v, f, r⟩ hk
              have L10 : L 10 = false := hk.1
              skip
              refine ⟨(by simpa using hsz), Below.setRow hB (by first | exact Nat.le_trans hW0 hp.1 | exact ge_r | omega | (have := hB.size; simp at this ⊢; omega)) _, v.rowOther (by first | exact ne_v_r | exact Ne.symm ne_r_v | omega) _, f.rowOther (by first | exact ne_f_r | exact Ne.symm ne_r_f | omega) _, ?_⟩
              rw [show upL L 10 10 = true from rfl]
              exact r.row _
          refine stepV 11 rfl rfl (fun _ _ _ h => h) ?_ ?_
          · intros; go_simp; exact ⟨rfl, rfl⟩
          exact AllI.nil
        case hV0 => exact fun p q => AllI.nil
        case he =>
        clear hB v f r
        rintro p wrrrr ⟨hsz, hB, v, f, r⟩
        replace r : blk wrrrr r_b (fltc (predQ Q B (x K).2.1, B)) 74 := r
        clear lt_v
        clear lt_f
        clear lt_r
        clear hsz hW0
        clear CO RC PD RP FC hE
        generalize predQ Q B (x K).2.1 = Q2 at *
        obtain ⟨B2, hB2⟩ : ∃ B2, B = B2 := ⟨_, rfl⟩
        subst hB2
        have AT := Lib.hid (fun w (hg : blk w f_b (fltc (Q2, B)) 91) => fattitude_any Q2 B f_b w hg FP.nz)
        have BI := Lib.hid (fun w (hg : blk w f_b (fltc (Q2, B)) 91) => fbias_any Q2 B f_b w hg FP.nz)
        go_upto_region 17 with (fail)
        have E1 := quat_eq_self Q2
        have E2 := vec_eq_self B
        have lt_v := v.lt
        have lt_f := f.lt
        have lt_r := r.lt
        have hW0 : w.heap.size ≤ wrrrr.heap.size := by have := hB.size; first | exact this | simpa using this
        apply wp_region_I 17 [0, 0, 3, 7, 15, 31, 15, 79, 255, 511, 1023, 2047, 4095, 2047, 10239, 32767, 65535] [] [_, _, _, _, _, _, _, _, _, _, _, _, _, _, _, _, _] (fun p L w' => wrrrr.heap.size ≤ w'.heap.size ∧ Below w.heap.size w w' ∧ blk w' w.heap.size (qfn q) 46 ∧ blk w' f_b (fltc (Q2, B)) 91 ∧ blk w' r_b (fltc (Q2, B)) 74) _ [(0, 82), (1, 83), (2, 84), (3, 85), (4, 86), (5, 87), (6, 88), (7, 89), (8, 90), (9, 91), (10, 92), (11, 93), (12, 94), (13, 95), (14, 96), (15, 97), (16, 98)] [0, 1, 2, 3, 4, 5, 6, 7, 8, 9, 10, 11, 12, 13, 14, 15, 16]
        case hn => rfl
        case hm => kernel_rfl
        case hB => kernel_rfl
        case hds => kernel_rfl
        case hA => (intro p; simp only [putsD, Act.put, List.setIfInBounds_toArray, List.set_cons_zero, List.set_cons_succ, List.getD_cons_zero, List.getD_cons_succ]; exact rfl)
        case h0 => exact fun p => ⟨Nat.le_refl _, hB.drew, v.drew, f.drew, r.drew⟩
        case hmore => exact fun p L w1 w2 ⟨hsz, hB, v, f, r⟩ hm => ⟨Nat.le_trans hsz hm.size, hB.trans (hm.mono (Nat.le_trans hW0 hsz)), v.below hm v.lt, f.below hm f.lt, r.below hm r.lt⟩
        case hs =>
          intro more
          refine stepV 0 rfl rfl (fun _ _ _ h => h) ?_ ?_
          · intros; go_simp; exact ⟨rfl, rfl⟩
          refine stepV 1 rfl rfl (fun _ _ _ h => h) ?_ ?_
          · intros; go_simp; exact ⟨rfl, rfl⟩
          refine stepV 2 rfl rfl (fun _ _ _ h => h) ?_ ?_
          · intros; go_simp; exact ⟨rfl, rfl⟩
          refine stepV 3 rfl rfl (fun _ _ _ h => h) ?_ ?_
          · intros; go_simp; exact ⟨rfl, rfl⟩
          refine stepVg 4 rfl (fun p => (by first | rfl | (simp [Region.wanted, yielded]; done))) (fun _ _ _ h => h) ?_ ?_
          · intros; go_simp; exact ⟨rfl, rfl⟩
          refine stepD 5 rfl (fun p => (by first | rfl | (simp [Region.wanted, yielded]; done))) (fun _ _ _ h => h) more ?_ ?_
          · rintro p L w1 ⟨hsz, hB, v, f, r⟩ hk
            go_simp
            refine (AT.out _ f).mono ?_
            rintro e w2 ⟨rfl, h2⟩
            first | exact ⟨rfl, h2⟩ | (subst h2; exact ⟨rfl, Below.refl _ _⟩)
          refine stepVg 6 rfl (fun p => (by first | rfl | (simp [Region.wanted, yielded]; done))) (fun _ _ _ h => h) ?_ ?_
          · intros; go_simp; exact ⟨rfl, rfl⟩
          refine stepVg 7 rfl (fun p => (by first | rfl | (simp [Region.wanted, yielded]; done))) (fun _ _ _ h => h) ?_ ?_
          · rintro p L w1 ⟨hsz, hB, v, f, r⟩ hk
            exact valR_part _ _ rfl _ 0 rfl _ _ r (qfn Q2) (flt_q Q2 B) _ Try.underlying46 rfl (by rw [qfn_size]; kernel_rfl) rfl
          refine stepVg 8 rfl (fun p => (by first | rfl | (simp [Region.wanted, yielded]; done))) (fun _ _ _ h => h) ?_ ?_
          · intros; go_simp; exact ⟨rfl, rfl⟩
          refine stepV 9 rfl rfl (fun _ _ _ h => h) ?_ ?_
          · intros; go_simp; exact ⟨rfl, rfl⟩
          refine stepV 10 rfl rfl (fun _ _ _ h => h) ?_ ?_
          · intros; go_simp; exact ⟨rfl, rfl⟩
          refine stepVg 11 rfl (fun p => (by first | rfl | (simp [Region.wanted, yielded]; done))) (fun _ _ _ h => h) ?_ ?_
          · intros; go_simp; exact ⟨rfl, rfl⟩
          refine stepD 12 rfl (fun p => (by first | rfl | (simp [Region.wanted, yielded]; done))) (fun _ _ _ h => h) more ?_ ?_
          · rintro p L w1 ⟨hsz, hB, v, f, r⟩ hk
            go_simp
            refine (BI.out _ f).mono ?_
            rintro e w2 ⟨rfl, h2⟩
            first | exact ⟨rfl, h2⟩ | (subst h2; exact ⟨rfl, Below.refl _ _⟩)
          refine stepVg 13 rfl (fun p => (by first | rfl | (simp [Region.wanted, yielded]; done))) (fun _ _ _ h => h) ?_ ?_
          · intros; go_simp; exact ⟨rfl, rfl⟩
          refine stepVg 14 rfl (fun p => (by first | rfl | (simp [Region.wanted, yielded]; done))) (fun _ _ _ h => h) ?_ ?_
          · rintro p L w1 ⟨hsz, hB, v, f, r⟩ hk
            exact valR_part _ _ rfl _ 4 rfl _ _ r (vfn B) (flt_b Q2 B) _ Try.underlying39 rfl (by rw [vfn_size]; kernel_rfl) rfl
          refine stepVg 15 rfl (fun p => (by first | rfl | (simp [Region.wanted, yielded]; done))) (fun _ _ _ h => h) ?_ ?_
          · intros; go_simp; exact ⟨rfl, rfl⟩
          refine stepV 16 rfl rfl (fun _ _ _ h => h) ?_ ?_
          · intros; go_simp; exact ⟨rfl, rfl⟩
          exact AllI.nil
        case hV0 => exact fun p q => AllI.nil
        case he =>
        clear hB v f r
        rintro p wrrrrr ⟨hsz, hB, v, f, r⟩
        clear lt_v
        clear lt_f
        clear lt_r
        clear hsz hW0
        clear E1 E2 AT BI
        go_wp2_with (fail)
        go_roundg (n - (K + 1))
        case rel => exact ⟨K + 1, Q2, B, by omega, rfl, FP, v, f, r, hB⟩
        case measure => omega
    · obtain rfl : K = n := by omega
      have hdK : decide ((K : Int) < K) = false := decide_eq_false (by omega)
      have hdK' : decide (K < K) = false := decide_eq_false (by omega)
      go_wp2_with (first
        | (refine wpList_load_rowG ?hw _ _ rfl _ rfl _ _ _ _ v Try.underlying46 rfl ?hi ?_; (case hw => (first | rfl | (simp [Region.wanted, yielded]; done))); (case hi => (first | kernel_rfl | (rw [qfn_size]; kernel_rfl))))
        | (refine wpList_load_rowG ?hw _ _ rfl _ rfl _ _ _ _ r Try.underlying74 rfl ?hi ?_; (case hw => (first | rfl | (simp [Region.wanted, yielded]; done))); (case hi => (first | kernel_rfl | (rw [fltc_size]; kernel_rfl))))
        | (go_at_call 25; with_reducible refine (AW.out _).mono ?_; rintro e w9 ⟨rfl, hb⟩; replace hB := hB.trans (hb.mono hB.size); replace v := v.below hb v.lt; replace f := f.below hb f.lt; replace r := r.below hb r.lt; clear hb))
      go_ret
      exact ⟨rfl, hB⟩
theorem gfilters_any (q : Nat → Int) (a : Option Addr) (n c : Nat) (x : Nat → Bool × (Nat → Int) × (Nat → Int)) (w : World) (el : ElemsA w a n 8 (fun k => (lok (x k)).toList)) (hx : ∀ k, k < n → Wlok (x k)) (hq : ∀ i, i < 4 → I64 (q i)) (hm : n ≤ maxLen) :
    Calls Try.prog 7 #[.agg (qfn q), .slice a n c] w fun e w' => e = .returned (.bool true) ∧ Below w.heap.size w w' := by
  by_cases hn : 60 < n
  · exact gfilters_no q a n c w hn
  · cases hv : validQ q with
    | true => exact gfilters_ok q a n c x w (by omega) hv el hx hq hm
    | false => exact gfilters_in q a n c w (by omega) hq hv
end Go.Proofs.Ytnkjbdfhdenbcaa
