/-
  Filters follow bodies.
-/
import Derived.Test.YtnkjbdfhdenbcaaFilP
import Derived.Test.YtnkjbdfhdenbcaaArgH
import Derived.Test.YtnkjbdfhdenbcaaAw21
set_option linter.unusedSimpArgs false
set_option linter.unusedVariables false
namespace Go.Proofs.Ytnkjbdfhdenbcaa
open Go.RowKit PM Dt
/-- The momenta, so many times. -/
def mulF (m : Int) (l : Nat → Int) : Nat → Int := fun i => m * l i
theorem mul_cells (m : Int) (l : Nat → Int) : #[Value.int .i64 (m * l 0), .int .i64 (m * l 1), .int .i64 (m * l 2)] = vfn (mulF m l) := by unfold vfn mulF; rfl
theorem zV_congr {f g : Nat → Int} (h : ∀ i, i < 3 → f i = g i) : zV f = zV g := by
  unfold zV
  rw [Bool.eq_iff_iff, List.all_eq_true, List.all_eq_true]
  constructor <;> intro hh i hi
  · rw [← h i (List.mem_range.1 hi)]; exact hh i hi
  · rw [h i (List.mem_range.1 hi)]; exact hh i hi
theorem small_congr {f g : Nat → Int} (h : ∀ i, i < 3 → f i = g i) (m : Int) : smallB f m = smallB g m := by
  unfold smallB; rw [h 0 (by omega), h 1 (by omega), h 2 (by omega)]
theorem turnF_congr (Q : Nat → Int) {f g : Nat → Int} (h : ∀ i, i < 3 → f i = g i) : turnF Q f = turnF Q g := by
  have e : rq f = rq g := by
    funext i
    unfold rq
    rw [h 0 (by omega), h 1 (by omega), h 2 (by omega)]
  unfold turnF turnOk
  rw [e, small_congr h]
theorem ftF_congr (Q : Nat → Int) {f g : Nat → Int} (h : ∀ i, i < 3 → f i = g i) : ftF Q f = ftF Q g := by
  unfold ftF; rw [zV_congr h, turnF_congr Q h]
theorem fol_pred (Q : Nat → Int) {l : Nat → Int} (h : ∀ i, i < 3 → -67108864 ≤ l i ∧ l i ≤ 67108864) : predE (mulF 4 l) = 0 ∧ predQ Q (fun _ => 0) (mulF 4 l) = ftF Q (mulF 2 l) := by
  have hs : smallB (mulF 4 l) 268435456 = true := small_of fun i hi => by have := h i hi; unfold mulF; omega
  unfold predE predQ
  rw [hs]
  refine ⟨rfl, ?_⟩
  show ftF Q (partF (vsubF (mulF 4 l) fun _ => 0) 2) = _
  refine ftF_congr Q fun i hi => ?_
  have := h i hi
  unfold partF
  rw [vsub_small hs (fun i hi => by show -16777216 ≤ (0 : Int) ∧ (0 : Int) ≤ 16777216; omega) i hi]
  show ratioV (4 * l i - 0) 1 2 = 2 * l i
  rw [ratio1 (by omega) (by omega) ⟨by omega, by omega⟩]
  omega
theorem fol_turn {Q l : Nat → Int} (hI : ∀ i, i < 4 → I64 (Q i)) (hv : validQ Q = true) (h : ∀ i, i < 3 → -67108864 ≤ l i ∧ l i ≤ 67108864) : turnE Q (mulF 2 l) = 0 :=
  (turn_core hI hv (small_of fun i hi => by have := h i hi; unfold mulF; omega)).1
theorem fol_z (l : Nat → Int) : zV (mulF 2 l) = zV l := by
  unfold zV mulF
  rw [Bool.eq_iff_iff, List.all_eq_true, List.all_eq_true]
  constructor <;> intro hh i hi <;> have := beq_iff_eq.1 (hh i hi) <;> exact beq_iff_eq.2 (by omega)
set_option maxRecDepth 100000 in
set_option maxHeartbeats 4000000 in
theorem gfollows_no (q : Nat → Int) (a : Option Addr) (n c : Nat) (w : World) (hq : ∀ i, i < 4 → I64 (q i)) (hv : validQ q = false) : Calls Try.prog 5 #[.agg (qfn q), .slice a n c] w fun e w' => e = .returned (.bool true) ∧ Below w.heap.size w w' := by
  have AW := Lib.hid (fun w => awake21_any w)
  have NF := Lib.hid (fun w => fnew_no q w hq hv)
  clear hq hv
  go_enter Try.func5, Try.ntmps5
  go_upto_region 1 with (fail)
  have v : blk (w.alloc (.cells (qfn q) 46)) w.heap.size (qfn q) 46 := blk.new _ _ _
  have hB : Below w.heap.size w (w.alloc (.cells (qfn q) 46)) := by go_grown
  generalize (w.alloc (.cells (qfn q) 46)) = w0 at *
  go_upto_region 1 with (fail)
  have lt_v := v.lt
  have hW0 : w.heap.size ≤ w0.heap.size := by have := hB.size; first | exact this | simpa using this
  apply wp_region_Q 7 [0, 1, 3, 7, 15, 31, 63] [] [_, _, _, _, _, _, _] (fun p L w' => w0.heap.size ≤ w'.heap.size ∧ Below w.heap.size w w' ∧ blk w' w.heap.size (qfn q) 46) _ [(0, 14), (1, 15), (2, 13), (3, 16), (4, 17), (5, 5), (6, 6)] [0, 1, 2, 3, 4, 5, 6]
  case hn => rfl
  case hB => kernel_rfl
  case hds => kernel_rfl
  case hA => (intro p; simp only [putsD, Act.put, List.setIfInBounds_toArray, List.set_cons_zero, List.set_cons_succ, List.getD_cons_zero, List.getD_cons_succ]; exact rfl)
  case h0 => exact fun p => ⟨Nat.le_refl _, hB, v⟩
  case hmore => exact fun p L w1 w2 ⟨hsz, hB, v⟩ hm => ⟨Nat.le_trans hsz hm.size, hB.trans (hm.mono (Nat.le_trans hW0 hsz)), v.below hm v.lt⟩
  case hs =>
    intro more
    refine stepV 0 rfl rfl (fun _ _ _ h => h) ?_ ?_
    · rintro p L w1 ⟨hsz, hB, v⟩ hk
      first | exact valR_row _ _ rfl _ rfl _ _ v _ Try.underlying46 rfl (by first | kernel_rfl | (rw [qfn_size]; kernel_rfl)) rfl | (have hc := v.cellIs (qfn_get _ (show 0 < 4 by omega)); go_simp; exact ⟨rfl, rfl⟩)
    refine stepD 1 rfl (fun p => rfl) (fun _ _ _ h => h) more ?_ ?_
    · rintro p L w1 ⟨hsz, hB, v⟩ hk
      go_simp
      refine (NF.out _).mono ?_
      rintro e w2 ⟨rfl, h2⟩
      first | exact ⟨rfl, h2⟩ | (subst h2; exact ⟨rfl, Below.refl _ _⟩)
    refine stepV 2 rfl rfl (fun _ _ _ h => h) ?_ ?_
    · intros; go_simp; exact ⟨rfl, rfl⟩
    refine stepV 3 rfl rfl (fun _ _ _ h => h) ?_ ?_
    · intros; go_simp; exact ⟨rfl, rfl⟩
    refine stepV 4 rfl rfl (fun _ _ _ h => h) ?_ ?_
    · intros; go_simp; exact ⟨rfl, rfl⟩
    refine stepV 5 rfl rfl (fun _ _ _ h => h) ?_ ?_
    · intros; go_simp; exact ⟨rfl, rfl⟩
    refine stepV 6 rfl rfl (fun _ _ _ h => h) ?_ ?_
    · intros; go_simp; exact ⟨rfl, rfl⟩
    exact AllI.nil
  case hV0 => exact fun p q => AllI.nil
  case he =>
  clear hB v
  rintro p w0r ⟨hsz, hB, v⟩
  clear lt_v
  clear hsz hW0
  go_wp2_with (first
    | (refine wpList_load_rowG ?hw _ _ rfl _ rfl _ _ _ _ v Try.underlying46 rfl ?hi ?_; (case hw => (first | rfl | (simp [Region.wanted, yielded]; done))); (case hi => (first | kernel_rfl | (rw [qfn_size]; kernel_rfl))))
    | (go_at_call 25; with_reducible refine (AW.out _).mono ?_; rintro e w9 ⟨rfl, hb⟩; replace hB := hB.trans (hb.mono hB.size); replace v := v.below hb v.lt; clear hb))
  go_ret
  exact ⟨rfl, hB⟩
set_option maxRecDepth 100000 in
set_option maxHeartbeats 4000000 in
theorem gfollows_long (q : Nat → Int) (a : Option Addr) (n c : Nat) (w : World) (hn : 60 < n) (hq : ∀ i, i < 4 → I64 (q i)) (hv : validQ q = true) : Calls Try.prog 5 #[.agg (qfn q), .slice a n c] w fun e w' => e = .returned (.bool true) ∧ Below w.heap.size w w' := by
  have AW := Lib.hid (fun w => awake21_any w)
  have d1 : decide ((60 : Int) < (n : Int)) = true := decide_eq_true (by omega)
  have d2 : decide (60 < n) = true := decide_eq_true (by omega)
  have NF := Lib.hid (fun w => fnew_ok q w hq hv)
  clear hq hv
  go_enter Try.func5, Try.ntmps5
  go_upto_region 1 with (fail)
  have v : blk (w.alloc (.cells (qfn q) 46)) w.heap.size (qfn q) 46 := blk.new _ _ _
  have hB : Below w.heap.size w (w.alloc (.cells (qfn q) 46)) := by go_grown
  generalize (w.alloc (.cells (qfn q) 46)) = w0 at *
  go_upto_region 1 with (fail)
  have lt_v := v.lt
  have hW0 : w.heap.size ≤ w0.heap.size := by have := hB.size; first | exact this | simpa using this
  apply wp_region_Q 7 [0, 1, 3, 7, 15, 31, 63] [1] [_, (fun p => (fun b => .tuple #[.pointer (some ⟨b, 0, none⟩), .int .i64 0]) (p 1)), _, _, _, _, _] (fun p L w' => w0.heap.size ≤ w'.heap.size ∧ Below w.heap.size w w' ∧ blk w' w.heap.size (qfn q) 46 ∧ (L 1 = true → w0.heap.size ≤ p 1 ∧ blk w' (p 1) (fltc (q, fun _ => 0)) 91)) _ [(0, 14), (1, 15), (2, 13), (3, 16), (4, 17), (5, 5), (6, 6)] [0, 1, 2, 3, 4, 5, 6]
  case hn => rfl
  case hB => kernel_rfl
  case hds => kernel_rfl
  case hA => (intro p; simp only [putsD, Act.put, List.setIfInBounds_toArray, List.set_cons_zero, List.set_cons_succ, List.getD_cons_zero, List.getD_cons_succ]; exact rfl)
  case h0 => exact fun p => ⟨Nat.le_refl _, hB, v, fun h => absurd h (by decide)⟩
  case hmore => exact fun p L w1 w2 ⟨hsz, hB, v, h_f⟩ hm => ⟨Nat.le_trans hsz hm.size, hB.trans (hm.mono (Nat.le_trans hW0 hsz)), v.below hm v.lt, fun hl => ⟨(h_f hl).1, (h_f hl).2.below hm (h_f hl).2.lt⟩⟩
  case hs =>
    intro more
    refine stepV 0 rfl rfl (fun _ _ _ h => h) ?_ ?_
    · rintro p L w1 ⟨hsz, hB, v, h_f⟩ hk
      first | exact valR_row _ _ rfl _ rfl _ _ v _ Try.underlying46 rfl (by first | kernel_rfl | (rw [qfn_size]; kernel_rfl)) rfl | (have hc := v.cellIs (qfn_get _ (show 0 < 4 by omega)); go_simp; exact ⟨rfl, rfl⟩)
    refine AllI.cons ?_ ?_
    · refine stepI_new 1 rfl (fun p => rfl) rfl (fun b => .tuple #[.pointer (some ⟨b, 0, none⟩), .int .i64 0]) (fltc (q, fun _ => 0)) 91 (fun p => rfl) ?_ ?_
      · rintro p L w1 ⟨hsz, hB, v, h_f⟩ hk
        go_simp
        refine (NF.out _).mono ?_
        rintro e w2 ⟨b, rfl, hb, hle, hm⟩
        exact ⟨_, rfl, b, rfl, hb, hle, hm⟩
      rintro p L w1 w2 b ⟨hsz, hB, v, h_f⟩ hk hb hle hm
      refine ⟨Nat.le_trans hsz hm.size, hB.trans (hm.mono (Nat.le_trans hW0 hsz)), v.below hm v.lt, fun _ => ⟨Nat.le_trans hsz hle, ?_⟩⟩
      exact hb
    refine stepV 2 rfl rfl (fun _ _ _ h => h) ?_ ?_
    · intros; go_simp; exact ⟨rfl, rfl⟩
    refine stepV 3 rfl rfl (fun _ _ _ h => h) ?_ ?_
    · intros; go_simp; exact ⟨rfl, rfl⟩
    refine stepV 4 rfl rfl (fun _ _ _ h => h) ?_ ?_
    · intros; go_simp; exact ⟨rfl, rfl⟩
    refine stepV 5 rfl rfl (fun _ _ _ h => h) ?_ ?_
    · intros; go_simp; exact ⟨rfl, rfl⟩
    refine stepV 6 rfl rfl (fun _ _ _ h => h) ?_ ?_
    · intros; go_simp; exact ⟨rfl, rfl⟩
    exact AllI.nil
  case hV0 =>
    intro p q
    refine AllI.cons ?_ ?_
    · skip
      iterate 7 (refine AllI.cons (by first | exact .inl rfl | (refine .inr ?_; simp only [List.getD_cons_zero, List.getD_cons_succ]; done) | exact .inr rfl) ?_)
      exact AllI.nil
    exact AllI.nil
  case he =>
  clear hB v
  rintro p w0r ⟨hsz, hB, v, h_f⟩
  obtain ⟨le_f, f⟩ := h_f rfl
  clear h_f
  replace f : blk w0r (p 1) (fltc (q, fun _ => 0)) 91 := f
  have ne_v_f : w.heap.size ≠ p 1 := Nat.ne_of_lt (Nat.lt_of_lt_of_le lt_v le_f)
  have ge_f : w.heap.size ≤ p 1 := Nat.le_trans hW0 le_f
  generalize p 1 = f_b at *
  clear lt_v
  clear hsz hW0
  go_wp2_with (first
    | (refine wpList_load_rowG ?hw _ _ rfl _ rfl _ _ _ _ v Try.underlying46 rfl ?hi ?_; (case hw => (first | rfl | (simp [Region.wanted, yielded]; done))); (case hi => (first | kernel_rfl | (rw [qfn_size]; kernel_rfl))))
    | (go_at_call 25; with_reducible refine (AW.out _).mono ?_; rintro e w9 ⟨rfl, hb⟩; replace hB := hB.trans (hb.mono hB.size); replace v := v.below hb v.lt; replace f := f.below hb f.lt; clear hb))
  go_ret
  exact ⟨rfl, hB⟩
set_option maxRecDepth 100000 in
set_option maxHeartbeats 20000000 in
theorem gfollows_ok (q : Nat → Int) (a : Option Addr) (n c : Nat) (x : Nat → Nat → Int) (w : World) (hn : n ≤ 60) (hv : validQ q = true) (el : ElemsA w a n 3 (fun k => (vfn (x k)).toList)) (hq : ∀ i, i < 4 → I64 (q i)) : Calls Try.prog 5 #[.agg (qfn q), .slice a n c] w fun e w' => e = .returned (.bool true) ∧ Below w.heap.size w w' := by
  have AW := Lib.hid (fun w => awake21_any w)
  have d1 : decide ((60 : Int) < (n : Int)) = false := decide_eq_false (by omega)
  have d2 : decide (60 < n) = false := decide_eq_false (by omega)
  have NF := Lib.hid (fun w => fnew_ok q w hq hv)
  have FN := FI.new hq hv
  clear hq hv
  replace el := Lib.hid el
  go_enter Try.func5, Try.ntmps5
  go_upto_region 1 with (fail)
  have v : blk (w.alloc (.cells (qfn q) 46)) w.heap.size (qfn q) 46 := blk.new _ _ _
  have hB : Below w.heap.size w (w.alloc (.cells (qfn q) 46)) := by go_grown
  generalize (w.alloc (.cells (qfn q) 46)) = w0 at *
  go_upto_region 1 with (fail)
  have lt_v := v.lt
  have hW0 : w.heap.size ≤ w0.heap.size := by have := hB.size; first | exact this | simpa using this
  apply wp_region_Q 7 [0, 1, 3, 7, 15, 31, 63] [1] [_, (fun p => (fun b => .tuple #[.pointer (some ⟨b, 0, none⟩), .int .i64 0]) (p 1)), _, _, _, _, _] (fun p L w' => w0.heap.size ≤ w'.heap.size ∧ Below w.heap.size w w' ∧ blk w' w.heap.size (qfn q) 46 ∧ (L 1 = true → w0.heap.size ≤ p 1 ∧ blk w' (p 1) (fltc (q, fun _ => 0)) 91)) _ [(0, 14), (1, 15), (2, 13), (3, 16), (4, 17), (5, 5), (6, 6)] [0, 1, 2, 3, 4, 5, 6]
  case hn => rfl
  case hB => kernel_rfl
  case hds => kernel_rfl
  case hA => (intro p; simp only [putsD, Act.put, List.setIfInBounds_toArray, List.set_cons_zero, List.set_cons_succ, List.getD_cons_zero, List.getD_cons_succ]; exact rfl)
  case h0 => exact fun p => ⟨Nat.le_refl _, hB, v, fun h => absurd h (by decide)⟩
  case hmore => exact fun p L w1 w2 ⟨hsz, hB, v, h_f⟩ hm => ⟨Nat.le_trans hsz hm.size, hB.trans (hm.mono (Nat.le_trans hW0 hsz)), v.below hm v.lt, fun hl => ⟨(h_f hl).1, (h_f hl).2.below hm (h_f hl).2.lt⟩⟩
  case hs =>
    intro more
    refine stepV 0 rfl rfl (fun _ _ _ h => h) ?_ ?_
    · rintro p L w1 ⟨hsz, hB, v, h_f⟩ hk
      first | exact valR_row _ _ rfl _ rfl _ _ v _ Try.underlying46 rfl (by first | kernel_rfl | (rw [qfn_size]; kernel_rfl)) rfl | (have hc := v.cellIs (qfn_get _ (show 0 < 4 by omega)); go_simp; exact ⟨rfl, rfl⟩)
    refine AllI.cons ?_ ?_
    · refine stepI_new 1 rfl (fun p => rfl) rfl (fun b => .tuple #[.pointer (some ⟨b, 0, none⟩), .int .i64 0]) (fltc (q, fun _ => 0)) 91 (fun p => rfl) ?_ ?_
      · rintro p L w1 ⟨hsz, hB, v, h_f⟩ hk
        go_simp
        refine (NF.out _).mono ?_
        rintro e w2 ⟨b, rfl, hb, hle, hm⟩
        exact ⟨_, rfl, b, rfl, hb, hle, hm⟩
      rintro p L w1 w2 b ⟨hsz, hB, v, h_f⟩ hk hb hle hm
      refine ⟨Nat.le_trans hsz hm.size, hB.trans (hm.mono (Nat.le_trans hW0 hsz)), v.below hm v.lt, fun _ => ⟨Nat.le_trans hsz hle, ?_⟩⟩
      exact hb
    refine stepV 2 rfl rfl (fun _ _ _ h => h) ?_ ?_
    · intros; go_simp; exact ⟨rfl, rfl⟩
    refine stepV 3 rfl rfl (fun _ _ _ h => h) ?_ ?_
    · intros; go_simp; exact ⟨rfl, rfl⟩
    refine stepV 4 rfl rfl (fun _ _ _ h => h) ?_ ?_
    · intros; go_simp; exact ⟨rfl, rfl⟩
    refine stepV 5 rfl rfl (fun _ _ _ h => h) ?_ ?_
    · intros; go_simp; exact ⟨rfl, rfl⟩
    refine stepV 6 rfl rfl (fun _ _ _ h => h) ?_ ?_
    · intros; go_simp; exact ⟨rfl, rfl⟩
    exact AllI.nil
  case hV0 =>
    intro p q
    refine AllI.cons ?_ ?_
    · skip
      iterate 7 (refine AllI.cons (by first | exact .inl rfl | (refine .inr ?_; simp only [List.getD_cons_zero, List.getD_cons_succ]; done) | exact .inr rfl) ?_)
      exact AllI.nil
    exact AllI.nil
  case he =>
  clear hB v
  rintro p w0r ⟨hsz, hB, v, h_f⟩
  obtain ⟨le_f, f⟩ := h_f rfl
  clear h_f
  replace f : blk w0r (p 1) (fltc (q, fun _ => 0)) 91 := f
  have ne_v_f : w.heap.size ≠ p 1 := Nat.ne_of_lt (Nat.lt_of_lt_of_le lt_v le_f)
  have ge_f : w.heap.size ≤ p 1 := Nat.le_trans hW0 le_f
  generalize p 1 = f_b at *
  clear lt_v
  clear hsz hW0
  go_wp2_with (fail)
  go_loopg [7] n (fun g_ iv wr => ∃ K : Nat, ∃ Q : Nat → Int, g_ + K = n ∧ iv = .int .i64 K ∧ FI Q (fun _ => 0) ∧ blk wr w.heap.size (qfn q) 46 ∧ blk wr f_b (fltc (Q, fun _ => 0)) 91 ∧ Below w.heap.size w wr)
  case atStart => exact ⟨0, q, by omega, rfl, FN, v, f, hB⟩
  case round =>
    clear FN v f hB NF
    obtain ⟨K, Q, hK, rfl, FQ, v, f, hB⟩ := hrel
    by_cases hKn : K < n
    · have hdK : decide ((K : Int) < n) = true := decide_eq_true (by omega)
      have hdK' : decide (K < n) = true := decide_eq_true hKn
      have hkn3 : (K : Int) < n := by omega
      have hk0 : (0 : Int) ≤ K := by omega
      have hwK : IntKind.i64.wrap ((K : Int) + 1) = ((K + 1 : Nat) : Int) := by rw [IntKind.wrap_i64]; omega
      obtain ⟨eb, eo, rfl, hEl, hE⟩ := el.out K hKn
      replace hE : w.rangeAt eb (eo + K * 3) ((vfn (x K)).toList) := hE
      generalize x K = l at *
      go_upto_region 9 with (fail)
      have lt_v := v.lt
      have lt_f := f.lt
      have hW0 : w.heap.size ≤ wr.heap.size := by have := hB.size; first | exact this | simpa using this
      apply wp_region_Q 6 [0, 1, 3, 7, 15, 31] [4] [_, _, _, _, (fun p => .pointer (some ⟨p 4, 0, none⟩)), (fun _ => undef)] (fun p L w' => wr.heap.size ≤ w'.heap.size ∧ Below w.heap.size w w' ∧ blk w' w.heap.size (qfn q) 46 ∧ blk w' f_b (fltc (Q, fun _ => 0)) 91 ∧ (L 4 = true → wr.heap.size ≤ p 4 ∧ blk w' (p 4) (bif L 5 then (vfn l) else (vfn fun _ => 0)) 39)) _ [(0, 34), (1, 35), (2, 36), (3, 37), (4, 8)] [0, 1, 2, 3, 4, 5]
      case hn => rfl
      case hB => kernel_rfl
      case hds => kernel_rfl
      case hA => (intro p; simp only [putsD, Act.put, List.setIfInBounds_toArray, List.set_cons_zero, List.set_cons_succ, List.getD_cons_zero, List.getD_cons_succ]; exact rfl)
      case h0 => exact fun p => ⟨Nat.le_refl _, hB, v, f, fun h => absurd h (by decide)⟩
      case hmore => exact fun p L w1 w2 ⟨hsz, hB, v, f, h_d⟩ hm => ⟨Nat.le_trans hsz hm.size, hB.trans (hm.mono (Nat.le_trans hW0 hsz)), v.below hm v.lt, f.below hm f.lt, fun hl => ⟨(h_d hl).1, (h_d hl).2.below hm (h_d hl).2.lt⟩⟩
      case hs =>
        intro more
        refine stepV 0 rfl rfl (fun _ _ _ h => h) ?_ ?_
        · intros; go_simp; exact ⟨rfl, rfl⟩
        refine stepV 1 rfl rfl (fun _ _ _ h => h) ?_ ?_
        · intros; go_simp; exact ⟨rfl, rfl⟩
        refine stepV 2 rfl rfl (fun _ _ _ h => h) ?_ ?_
        · intros; go_simp; exact ⟨rfl, rfl⟩
        refine stepV 3 rfl rfl (fun _ _ _ h => h) ?_ ?_
        · rintro p L w1 ⟨hsz, hB, v, f, h_d⟩ hk
          have hr := range_below hE hB hEl
          exact valR_range _ _ rfl _ _ rfl _ (eo + K * 3) 0 hr (by first | rfl | omega) (vfn l) (fun j _ => by rw [Nat.zero_add, Array.getElem?_toList]) _ Try.underlying39 rfl (by rw [vfn_size]; kernel_rfl) rfl
        refine AllI.cons ?_ ?_
        · refine stepI_alloc 4 rfl (fun p => rfl) rfl (vfn fun _ => 0) 39 (fun p => rfl) ?_ ?_
          · intro p w1
            go_simp
            first | rfl | rw [zero_vec]
          rintro p L w1 ⟨hsz, hB, v, f, h_d⟩ hk
          have L5 : L 5 = false := hk.2.2 5 rfl
          refine ⟨Nat.le_trans hsz (by simp), hB.alloc (Nat.le_trans (by first | exact hW0 | (have := hB.size; simp at this ⊢; omega)) hsz) _, v.alloc _, f.alloc _, fun _ => ⟨hsz, ?_⟩⟩
          rw [show upL L 4 5 = false from L5]
          exact blk.new _ _ _
        refine AllI.cons ?_ ?_
        · refine stepI_store 5 rfl (fun p => rfl) (fun p => rfl) _ _ _ rfl (fun p => p 4) 0 (fun p => rfl) (fun p => (vfn l)) (fun p => rfl) (fun p => (vfn fun _ => 0)) (fun p => (vfn l)) 39 (fun p => over_v _ _) (fun p => by first | (rw [vfn_size, vfn_size]; decide) | simp [vfn_size, vfn_size]) (fun p => by rw [vfn_size]; kernel_rfl) (fun p => vfn_one _) ?_ ?_
          · rintro p L w1 ⟨hsz, hB, v, f, h_d⟩ hk
            have L5 : L 5 = false := hk.1
            have hh := (h_d (hk.2.1 4 rfl)).2
            rw [L5] at hh
            try simp only [cond_true, cond_false] at hh
            exact hh
          · rintro p L w1 ⟨hsz, hB, v, f, h_d⟩ hk
            have L5 : L 5 = false := hk.1
            skip
            have hp := h_d (hk.2.1 4 rfl)
            refine ⟨(by simpa using hsz), Below.setRow hB (by first | exact Nat.le_trans hW0 hp.1 | exact ge_d | omega | (have := hB.size; simp at this ⊢; omega)) _, v.rowOther (by first | exact Nat.ne_of_lt (Nat.lt_of_lt_of_le lt_v hp.1) | omega) _, f.rowOther (by first | exact Nat.ne_of_lt (Nat.lt_of_lt_of_le lt_f hp.1) | omega) _, fun _ => ⟨hp.1, ?_⟩⟩
            rw [show upL L 5 5 = true from rfl]
            exact hp.2.row _
        exact AllI.nil
      case hV0 =>
        intro p q
        refine AllI.cons ?_ ?_
        · skip
          iterate 6 (refine AllI.cons (by first | exact .inl rfl | (refine .inr ?_; simp only [List.getD_cons_zero, List.getD_cons_succ]; done) | exact .inr rfl) ?_)
          exact AllI.nil
        exact AllI.nil
      case he =>
      clear hB v f
      rintro p wrr ⟨hsz, hB, v, f, h_d⟩
      obtain ⟨le_d, d⟩ := h_d rfl
      clear h_d
      replace d : blk wrr (p 4) (vfn l) 39 := d
      have ne_v_d : w.heap.size ≠ p 4 := Nat.ne_of_lt (Nat.lt_of_lt_of_le lt_v le_d)
      have ne_f_d : f_b ≠ p 4 := Nat.ne_of_lt (Nat.lt_of_lt_of_le lt_f le_d)
      have ge_d : w.heap.size ≤ p 4 := Nat.le_trans hW0 le_d
      generalize p 4 = d_b at *
      clear lt_v
      clear lt_f
      clear hsz hW0
      clear hE hEl
      go_wp2_with (fail)
      go_loopg [9] 3 (fun g_ iv wr => ∃ k : Nat, g_ + k = 3 ∧ iv = .int .i64 k ∧ Hid (∀ j, j < k → -67108864 ≤ l j ∧ l j ≤ 67108864) ∧ blk wr w.heap.size (qfn q) 46 ∧ blk wr f_b (fltc (Q, fun _ => 0)) 91 ∧ blk wr d_b (vfn l) 39 ∧ Below w.heap.size w wr)
      case atStart => exact ⟨0, rfl, rfl, fun j hj => absurd hj (by omega), v, f, d, hB⟩
      case round =>
        clear v f d hB
        obtain ⟨k, hk, rfl, HL, v, f, d, hB⟩ := hrel
        by_cases hkn : k < 3
        · have hdk : decide ((k : Int) < 3) = true := decide_eq_true (by omega)
          have hdk' : decide (k < 3) = true := decide_eq_true (by omega)
          have hk3 : (k : Int) < 3 := by omega
          have hw3 : IntKind.i64.wrap ((k : Int) + 1) = ((k + 1 : Nat) : Int) := by rw [IntKind.wrap_i64]; omega
          by_cases hb : -67108864 ≤ l k ∧ l k ≤ 67108864
          · have e1 : decide ((67108864 : Int) < l k) = false := decide_eq_false (by omega)
            have e2 : decide (l k < -67108864) = false := decide_eq_false (by omega)
            have HL2 : Hid (∀ j, j < k + 1 → -67108864 ≤ l j ∧ l j ≤ 67108864) := fun j hj => by
              by_cases hjk : j = k
              · subst hjk; exact hb
              · exact HL.out j (by omega)
            clear hb
            go_upto_region 13 with (fail)
            have lt_v := v.lt
            have lt_f := f.lt
            have lt_d := d.lt
            have hW0 : w.heap.size ≤ wr.heap.size := by have := hB.size; first | exact this | simpa using this
            apply wp_region_Q 10 [0, 1, 3, 7, 15, 31, 63, 127, 255, 511] [] [_, _, _, _, _, _, _, _, _, _] (fun p L w' => wr.heap.size ≤ w'.heap.size ∧ Below w.heap.size w w' ∧ blk w' w.heap.size (qfn q) 46 ∧ blk w' f_b (fltc (Q, fun _ => 0)) 91 ∧ blk w' d_b (vfn l) 39) _ [(0, 42), (1, 43), (2, 44), (3, 45), (4, 46), (5, 47), (6, 48), (7, 49), (8, 50), (9, 51)] [0, 1, 2, 3, 4, 5, 6, 7, 8, 9]
            case hn => rfl
            case hB => kernel_rfl
            case hds => kernel_rfl
            case hA => (intro p; simp only [putsD, Act.put, List.setIfInBounds_toArray, List.set_cons_zero, List.set_cons_succ, List.getD_cons_zero, List.getD_cons_succ]; exact rfl)
            case h0 => exact fun p => ⟨Nat.le_refl _, hB, v, f, d⟩
            case hmore => exact fun p L w1 w2 ⟨hsz, hB, v, f, d⟩ hm => ⟨Nat.le_trans hsz hm.size, hB.trans (hm.mono (Nat.le_trans hW0 hsz)), v.below hm v.lt, f.below hm f.lt, d.below hm d.lt⟩
            case hs =>
              intro more
              refine stepV 0 rfl rfl (fun _ _ _ h => h) ?_ ?_
              · intros; go_simp; exact ⟨rfl, rfl⟩
              refine stepV 1 rfl rfl (fun _ _ _ h => h) ?_ ?_
              · intros; go_simp; exact ⟨rfl, rfl⟩
              refine stepV 2 rfl rfl (fun _ _ _ h => h) ?_ ?_
              · rintro p L w1 ⟨hsz, hB, v, f, d⟩ hk
                have hc : w1.cell? ⟨d_b, k, none⟩ = some (.int .i64 (l k)) := d.cellIs (vfn_get _ hkn)
                go_simp
                exact ⟨rfl, rfl⟩
              refine stepV 3 rfl rfl (fun _ _ _ h => h) ?_ ?_
              · intros; go_simp; exact ⟨rfl, rfl⟩
              refine stepV 4 rfl rfl (fun _ _ _ h => h) ?_ ?_
              · intros; go_simp; exact ⟨rfl, rfl⟩
              refine stepVg 5 rfl (fun p => (by first | rfl | (simp [Region.wanted, yielded]; done))) (fun _ _ _ h => h) ?_ ?_
              · intros; go_simp; exact ⟨rfl, rfl⟩
              refine stepVg 6 rfl (fun p => (by first | rfl | (simp [Region.wanted, yielded]; done))) (fun _ _ _ h => h) ?_ ?_
              · intros; go_simp; exact ⟨rfl, rfl⟩
              refine stepVg 7 rfl (fun p => (by first | rfl | (simp [Region.wanted, yielded]; done))) (fun _ _ _ h => h) ?_ ?_
              · rintro p L w1 ⟨hsz, hB, v, f, d⟩ hk
                have hc : w1.cell? ⟨d_b, k, none⟩ = some (.int .i64 (l k)) := d.cellIs (vfn_get _ hkn)
                go_simp
                exact ⟨rfl, rfl⟩
              refine stepVg 8 rfl (fun p => (by first | rfl | (simp [Region.wanted, yielded]; done))) (fun _ _ _ h => h) ?_ ?_
              · intros; go_simp; exact ⟨rfl, rfl⟩
              refine stepV 9 rfl rfl (fun _ _ _ h => h) ?_ ?_
              · intros; go_simp; exact ⟨rfl, rfl⟩
              exact AllI.nil
            case hV0 => exact fun p q => AllI.nil
            case he =>
            clear hB v f d
            rintro p wrr ⟨hsz, hB, v, f, d⟩
            clear lt_v
            clear lt_f
            clear lt_d
            clear hsz hW0
            go_wp2_with (fail)
            go_roundg (3 - (k + 1))
            case rel => exact ⟨k + 1, by omega, rfl, HL2, v, f, d, hB⟩
            case measure => omega
          · by_cases hb1 : (67108864 : Int) < l k
            · have e1 : decide ((67108864 : Int) < l k) = true := decide_eq_true (by omega)
              clear hb hb1
              go_upto_region 13 with (fail)
              have lt_v := v.lt
              have lt_f := f.lt
              have lt_d := d.lt
              have hW0 : w.heap.size ≤ wr.heap.size := by have := hB.size; first | exact this | simpa using this
              apply wp_region_Q 10 [0, 1, 3, 7, 15, 31, 63, 127, 255, 511] [] [_, _, _, _, _, _, _, _, _, _] (fun p L w' => wr.heap.size ≤ w'.heap.size ∧ Below w.heap.size w w' ∧ blk w' w.heap.size (qfn q) 46 ∧ blk w' f_b (fltc (Q, fun _ => 0)) 91 ∧ blk w' d_b (vfn l) 39) _ [(0, 42), (1, 43), (2, 44), (3, 45), (4, 46), (5, 47), (6, 48), (7, 49), (8, 50), (9, 51)] [0, 1, 2, 3, 4, 5, 6, 7, 8, 9]
              case hn => rfl
              case hB => kernel_rfl
              case hds => kernel_rfl
              case hA => (intro p; simp only [putsD, Act.put, List.setIfInBounds_toArray, List.set_cons_zero, List.set_cons_succ, List.getD_cons_zero, List.getD_cons_succ]; exact rfl)
              case h0 => exact fun p => ⟨Nat.le_refl _, hB, v, f, d⟩
              case hmore => exact fun p L w1 w2 ⟨hsz, hB, v, f, d⟩ hm => ⟨Nat.le_trans hsz hm.size, hB.trans (hm.mono (Nat.le_trans hW0 hsz)), v.below hm v.lt, f.below hm f.lt, d.below hm d.lt⟩
              case hs =>
                intro more
                refine stepV 0 rfl rfl (fun _ _ _ h => h) ?_ ?_
                · intros; go_simp; exact ⟨rfl, rfl⟩
                refine stepV 1 rfl rfl (fun _ _ _ h => h) ?_ ?_
                · intros; go_simp; exact ⟨rfl, rfl⟩
                refine stepV 2 rfl rfl (fun _ _ _ h => h) ?_ ?_
                · rintro p L w1 ⟨hsz, hB, v, f, d⟩ hk
                  have hc : w1.cell? ⟨d_b, k, none⟩ = some (.int .i64 (l k)) := d.cellIs (vfn_get _ hkn)
                  go_simp
                  exact ⟨rfl, rfl⟩
                refine stepV 3 rfl rfl (fun _ _ _ h => h) ?_ ?_
                · intros; go_simp; exact ⟨rfl, rfl⟩
                refine stepV 4 rfl rfl (fun _ _ _ h => h) ?_ ?_
                · intros; go_simp; exact ⟨rfl, rfl⟩
                refine AllI.cons ?_ ?_
                · exact stepI_off 5 rfl (fun p => rfl) (fun p => rfl) (fun _ _ _ h => h)
                refine AllI.cons ?_ ?_
                · exact stepI_off 6 rfl (fun p => rfl) (fun p => rfl) (fun _ _ _ h => h)
                refine AllI.cons ?_ ?_
                · exact stepI_off 7 rfl (fun p => rfl) (fun p => rfl) (fun _ _ _ h => h)
                refine AllI.cons ?_ ?_
                · exact stepI_off 8 rfl (fun p => rfl) (fun p => rfl) (fun _ _ _ h => h)
                refine stepV 9 rfl rfl (fun _ _ _ h => h) ?_ ?_
                · intros; go_simp; exact ⟨rfl, rfl⟩
                exact AllI.nil
              case hV0 => exact fun p q => AllI.nil
              case he =>
              clear hB v f d
              rintro p wrr ⟨hsz, hB, v, f, d⟩
              clear lt_v
              clear lt_f
              clear lt_d
              clear hsz hW0
              go_wp2_with (first
                | (refine wpList_load_rowG ?hw _ _ rfl _ rfl _ _ _ _ v Try.underlying46 rfl ?hi ?_; (case hw => (first | rfl | (simp [Region.wanted, yielded]; done))); (case hi => (first | kernel_rfl | (rw [qfn_size]; kernel_rfl))))
                | (refine wpList_load_rowG ?hw _ _ rfl _ rfl _ _ _ _ d Try.underlying39 rfl ?hi ?_; (case hw => (first | rfl | (simp [Region.wanted, yielded]; done))); (case hi => (first | kernel_rfl | (rw [vfn_size]; kernel_rfl))))
                | (go_at_call 25; with_reducible refine (AW.out _).mono ?_; rintro e w9 ⟨rfl, hb⟩; replace hB := hB.trans (hb.mono hB.size); replace v := v.below hb v.lt; replace f := f.below hb f.lt; replace d := d.below hb d.lt; clear hb))
              go_ret
              exact ⟨rfl, hB⟩
            · have e1 : decide ((67108864 : Int) < l k) = false := decide_eq_false (by omega)
              have e2 : decide (l k < -67108864) = true := decide_eq_true (by omega)
              clear hb hb1
              go_upto_region 13 with (fail)
              have lt_v := v.lt
              have lt_f := f.lt
              have lt_d := d.lt
              have hW0 : w.heap.size ≤ wr.heap.size := by have := hB.size; first | exact this | simpa using this
              apply wp_region_Q 10 [0, 1, 3, 7, 15, 31, 63, 127, 255, 511] [] [_, _, _, _, _, _, _, _, _, _] (fun p L w' => wr.heap.size ≤ w'.heap.size ∧ Below w.heap.size w w' ∧ blk w' w.heap.size (qfn q) 46 ∧ blk w' f_b (fltc (Q, fun _ => 0)) 91 ∧ blk w' d_b (vfn l) 39) _ [(0, 42), (1, 43), (2, 44), (3, 45), (4, 46), (5, 47), (6, 48), (7, 49), (8, 50), (9, 51)] [0, 1, 2, 3, 4, 5, 6, 7, 8, 9]
              case hn => rfl
              case hB => kernel_rfl
              case hds => kernel_rfl
              case hA => (intro p; simp only [putsD, Act.put, List.setIfInBounds_toArray, List.set_cons_zero, List.set_cons_succ, List.getD_cons_zero, List.getD_cons_succ]; exact rfl)
              case h0 => exact fun p => ⟨Nat.le_refl _, hB, v, f, d⟩
              case hmore => exact fun p L w1 w2 ⟨hsz, hB, v, f, d⟩ hm => ⟨Nat.le_trans hsz hm.size, hB.trans (hm.mono (Nat.le_trans hW0 hsz)), v.below hm v.lt, f.below hm f.lt, d.below hm d.lt⟩
              case hs =>
                intro more
                refine stepV 0 rfl rfl (fun _ _ _ h => h) ?_ ?_
                · intros; go_simp; exact ⟨rfl, rfl⟩
                refine stepV 1 rfl rfl (fun _ _ _ h => h) ?_ ?_
                · intros; go_simp; exact ⟨rfl, rfl⟩
                refine stepV 2 rfl rfl (fun _ _ _ h => h) ?_ ?_
                · rintro p L w1 ⟨hsz, hB, v, f, d⟩ hk
                  have hc : w1.cell? ⟨d_b, k, none⟩ = some (.int .i64 (l k)) := d.cellIs (vfn_get _ hkn)
                  go_simp
                  exact ⟨rfl, rfl⟩
                refine stepV 3 rfl rfl (fun _ _ _ h => h) ?_ ?_
                · intros; go_simp; exact ⟨rfl, rfl⟩
                refine stepV 4 rfl rfl (fun _ _ _ h => h) ?_ ?_
                · intros; go_simp; exact ⟨rfl, rfl⟩
                refine stepVg 5 rfl (fun p => (by first | rfl | (simp [Region.wanted, yielded]; done))) (fun _ _ _ h => h) ?_ ?_
                · intros; go_simp; exact ⟨rfl, rfl⟩
                refine stepVg 6 rfl (fun p => (by first | rfl | (simp [Region.wanted, yielded]; done))) (fun _ _ _ h => h) ?_ ?_
                · intros; go_simp; exact ⟨rfl, rfl⟩
                refine stepVg 7 rfl (fun p => (by first | rfl | (simp [Region.wanted, yielded]; done))) (fun _ _ _ h => h) ?_ ?_
                · rintro p L w1 ⟨hsz, hB, v, f, d⟩ hk
                  have hc : w1.cell? ⟨d_b, k, none⟩ = some (.int .i64 (l k)) := d.cellIs (vfn_get _ hkn)
                  go_simp
                  exact ⟨rfl, rfl⟩
                refine stepVg 8 rfl (fun p => (by first | rfl | (simp [Region.wanted, yielded]; done))) (fun _ _ _ h => h) ?_ ?_
                · intros; go_simp; exact ⟨rfl, rfl⟩
                refine stepV 9 rfl rfl (fun _ _ _ h => h) ?_ ?_
                · intros; go_simp; exact ⟨rfl, rfl⟩
                exact AllI.nil
              case hV0 => exact fun p q => AllI.nil
              case he =>
              clear hB v f d
              rintro p wrr ⟨hsz, hB, v, f, d⟩
              clear lt_v
              clear lt_f
              clear lt_d
              clear hsz hW0
              go_wp2_with (first
                | (refine wpList_load_rowG ?hw _ _ rfl _ rfl _ _ _ _ v Try.underlying46 rfl ?hi ?_; (case hw => (first | rfl | (simp [Region.wanted, yielded]; done))); (case hi => (first | kernel_rfl | (rw [qfn_size]; kernel_rfl))))
                | (refine wpList_load_rowG ?hw _ _ rfl _ rfl _ _ _ _ d Try.underlying39 rfl ?hi ?_; (case hw => (first | rfl | (simp [Region.wanted, yielded]; done))); (case hi => (first | kernel_rfl | (rw [vfn_size]; kernel_rfl))))
                | (go_at_call 25; with_reducible refine (AW.out _).mono ?_; rintro e w9 ⟨rfl, hb⟩; replace hB := hB.trans (hb.mono hB.size); replace v := v.below hb v.lt; replace f := f.below hb f.lt; replace d := d.below hb d.lt; clear hb))
              go_ret
              exact ⟨rfl, hB⟩
        · obtain rfl : k = 3 := by omega
          replace HL := HL.out
          have AT := Lib.hid (fun w (hg : blk w f_b (fltc (Q, fun _ => 0)) 91) => fattitude_any Q (fun _ => 0) f_b w hg FQ.nz)
          have TU := Lib.hid (fun w => turn_any Q (mulF 2 l) w FQ.i (fun i hi => by have := HL i hi; unfold mulF; exact ⟨by omega, by omega⟩))
          rw [fol_turn FQ.i FQ.v HL] at TU
          have PD := Lib.hid (fun w (hg : blk w f_b (fltc (Q, fun _ => 0)) 91) => pred_any Q (fun _ => 0) (mulF 4 l) f_b w hg FQ)
          have FP := FQ.pred (mulF 4 l)
          rw [(fol_pred Q HL).1, (fol_pred Q HL).2] at PD
          rw [(fol_pred Q HL).2] at FP
          have w2_0 : IntKind.i64.wrap (2 * l 0) = 2 * l 0 := by have := HL 0 (by omega); rw [IntKind.wrap_i64]; omega
          have w4_0 : IntKind.i64.wrap (4 * l 0) = 4 * l 0 := by have := HL 0 (by omega); rw [IntKind.wrap_i64]; omega
          have w2_1 : IntKind.i64.wrap (2 * l 1) = 2 * l 1 := by have := HL 1 (by omega); rw [IntKind.wrap_i64]; omega
          have w4_1 : IntKind.i64.wrap (4 * l 1) = 4 * l 1 := by have := HL 1 (by omega); rw [IntKind.wrap_i64]; omega
          have w2_2 : IntKind.i64.wrap (2 * l 2) = 2 * l 2 := by have := HL 2 (by omega); rw [IntKind.wrap_i64]; omega
          have w4_2 : IntKind.i64.wrap (4 * l 2) = 4 * l 2 := by have := HL 2 (by omega); rw [IntKind.wrap_i64]; omega
          have AT2 := Lib.hid (fun w (hg : blk w f_b (fltc (ftF Q (mulF 2 l), fun _ => 0)) 91) => fattitude_any (ftF Q (mulF 2 l)) (fun _ => 0) f_b w hg FP.nz)
          have VA := Lib.hid (fun w => qvalid_any (ftF Q (mulF 2 l)) w FP.i)
          rw [FP.v] at VA
          clear HL
          go_upto_region 15 with (fail)
          have lt_v := v.lt
          have lt_f := f.lt
          have lt_d := d.lt
          have hW0 : w.heap.size ≤ wr.heap.size := by have := hB.size; first | exact this | simpa using this
          apply wp_region_Q 4 [0, 1, 3, 7] [2] [_, _, (fun p => .pointer (some ⟨p 2, 0, none⟩)), (fun _ => undef)] (fun p L w' => wr.heap.size ≤ w'.heap.size ∧ Below w.heap.size w w' ∧ blk w' w.heap.size (qfn q) 46 ∧ blk w' f_b (fltc (Q, fun _ => 0)) 91 ∧ blk w' d_b (vfn l) 39 ∧ (L 2 = true → wr.heap.size ≤ p 2 ∧ blk w' (p 2) (bif L 3 then (qfn Q) else (qfn fun _ => 0)) 46)) _ [(0, 53), (1, 54), (2, 10)] [0, 1, 2, 3]
          case hn => rfl
          case hB => kernel_rfl
          case hds => kernel_rfl
          case hA => (intro p; simp only [putsD, Act.put, List.setIfInBounds_toArray, List.set_cons_zero, List.set_cons_succ, List.getD_cons_zero, List.getD_cons_succ]; exact rfl)
          case h0 => exact fun p => ⟨Nat.le_refl _, hB, v, f, d, fun h => absurd h (by decide)⟩
          case hmore => exact fun p L w1 w2 ⟨hsz, hB, v, f, d, h_z⟩ hm => ⟨Nat.le_trans hsz hm.size, hB.trans (hm.mono (Nat.le_trans hW0 hsz)), v.below hm v.lt, f.below hm f.lt, d.below hm d.lt, fun hl => ⟨(h_z hl).1, (h_z hl).2.below hm (h_z hl).2.lt⟩⟩
          case hs =>
            intro more
            refine stepV 0 rfl rfl (fun _ _ _ h => h) ?_ ?_
            · intros; go_simp; exact ⟨rfl, rfl⟩
            refine stepD 1 rfl (fun p => rfl) (fun _ _ _ h => h) more ?_ ?_
            · rintro p L w1 ⟨hsz, hB, v, f, d, h_z⟩ hk
              have L3 : L 3 = false := hk.2.2 3 rfl
              go_simp
              refine (AT.out _ f).mono ?_
              rintro e w2 ⟨rfl, h2⟩
              first | exact ⟨rfl, h2⟩ | (subst h2; exact ⟨rfl, Below.refl _ _⟩)
            refine AllI.cons ?_ ?_
            · refine stepI_alloc 2 rfl (fun p => rfl) rfl (qfn fun _ => 0) 46 (fun p => rfl) ?_ ?_
              · intro p w1
                go_simp
                first | rfl | rw [zero_quat]
              rintro p L w1 ⟨hsz, hB, v, f, d, h_z⟩ hk
              have L3 : L 3 = false := hk.2.2 3 rfl
              refine ⟨Nat.le_trans hsz (by simp), hB.alloc (Nat.le_trans (by first | exact hW0 | (have := hB.size; simp at this ⊢; omega)) hsz) _, v.alloc _, f.alloc _, d.alloc _, fun _ => ⟨hsz, ?_⟩⟩
              rw [show upL L 2 3 = false from L3]
              exact blk.new _ _ _
            refine AllI.cons ?_ ?_
            · refine stepI_store 3 rfl (fun p => rfl) (fun p => rfl) _ _ _ rfl (fun p => p 2) 0 (fun p => rfl) (fun p => (qfn Q)) (fun p => rfl) (fun p => (qfn fun _ => 0)) (fun p => (qfn Q)) 46 (fun p => over_qq _ _) (fun p => by first | (rw [qfn_size, qfn_size]; decide) | simp [qfn_size, qfn_size]) (fun p => by rw [qfn_size]; kernel_rfl) (fun p => qfn_one _) ?_ ?_
              · rintro p L w1 ⟨hsz, hB, v, f, d, h_z⟩ hk
                have L3 : L 3 = false := hk.1
                have hh := (h_z (hk.2.1 2 rfl)).2
                rw [L3] at hh
                try simp only [cond_true, cond_false] at hh
                exact hh
              · rintro p L w1 ⟨hsz, hB, v, f, d, h_z⟩ hk
                have L3 : L 3 = false := hk.1
                skip
                have hp := h_z (hk.2.1 2 rfl)
                refine ⟨(by simpa using hsz), Below.setRow hB (by first | exact Nat.le_trans hW0 hp.1 | exact ge_z | omega | (have := hB.size; simp at this ⊢; omega)) _, v.rowOther (by first | exact Nat.ne_of_lt (Nat.lt_of_lt_of_le lt_v hp.1) | omega) _, f.rowOther (by first | exact Nat.ne_of_lt (Nat.lt_of_lt_of_le lt_f hp.1) | omega) _, d.rowOther (by first | exact Nat.ne_of_lt (Nat.lt_of_lt_of_le lt_d hp.1) | omega) _, fun _ => ⟨hp.1, ?_⟩⟩
                rw [show upL L 3 3 = true from rfl]
                exact hp.2.row _
            exact AllI.nil
          case hV0 =>
            intro p q
            refine AllI.cons ?_ ?_
            · skip
              iterate 4 (refine AllI.cons (by first | exact .inl rfl | (refine .inr ?_; simp only [List.getD_cons_zero, List.getD_cons_succ]; done) | exact .inr rfl) ?_)
              exact AllI.nil
            exact AllI.nil
          case he =>
          clear hB v f d
          rintro p wrr ⟨hsz, hB, v, f, d, h_z⟩
          obtain ⟨le_z, z⟩ := h_z rfl
          clear h_z
          replace z : blk wrr (p 2) (qfn Q) 46 := z
          have ne_v_z : w.heap.size ≠ p 2 := Nat.ne_of_lt (Nat.lt_of_lt_of_le lt_v le_z)
          have ne_f_z : f_b ≠ p 2 := Nat.ne_of_lt (Nat.lt_of_lt_of_le lt_f le_z)
          have ne_d_z : d_b ≠ p 2 := Nat.ne_of_lt (Nat.lt_of_lt_of_le lt_d le_z)
          have ge_z : w.heap.size ≤ p 2 := Nat.le_trans hW0 le_z
          generalize p 2 = z_b at *
          clear lt_v
          clear lt_f
          clear lt_d
          clear hsz hW0
          have EQ := vec_eq0 l
          cases hz : zV l with
          | true =>
            simp only [hz] at EQ
            have e : ftF Q (mulF 2 l) = Q := by unfold ftF; rw [fol_z, hz]; rfl
            go_upto_region 21 with (first
              | (refine wpList_load_rowG ?hw _ _ rfl _ rfl _ _ _ _ d Try.underlying39 rfl ?hi ?_; (case hw => (first | rfl | (simp [Region.wanted, yielded]; done))); (case hi => (first | kernel_rfl | (rw [vfn_size]; kernel_rfl)))))
            clear EQ
            rw [← e] at z
            clear e
            have E1 := quat_eq_self (ftF Q (mulF 2 l))
            go_upto_region 21 with (fail)
            have lt_v := v.lt
            have lt_f := f.lt
            have lt_d := d.lt
            have lt_z := z.lt
            have hW0 : w.heap.size ≤ wrr.heap.size := by have := hB.size; first | exact this | simpa using this
            apply wp_region_I 24 [0, 0, 2, 6, 0, 16, 48, 0, 128, 384, 1022, 2047, 4095, 8191, 16383, 32767, 16383, 131071, 262143, 524287, 1048575, 2097151, 4194303, 8388607] [] [_, _, _, _, _, _, _, _, _, _, _, _, _, _, _, _, _, _, _, _, _, _, _, _] (fun p L w' => wrr.heap.size ≤ w'.heap.size ∧ Below w.heap.size w w' ∧ blk w' w.heap.size (qfn q) 46 ∧ blk w' f_b (bif L 11 then (fltc (ftF Q (mulF 2 l), fun _ => 0)) else (fltc (Q, fun _ => 0))) 91 ∧ blk w' d_b (vfn l) 39 ∧ blk w' z_b (qfn (ftF Q (mulF 2 l))) 46) _ [(0, 76), (1, 77), (2, 78), (3, 79), (4, 80), (5, 81), (6, 82), (7, 83), (8, 84), (9, 85), (10, 86), (11, 87), (12, 88), (13, 89), (14, 90), (15, 91), (16, 92), (17, 93), (18, 94), (19, 95), (20, 96), (21, 97), (22, 98), (23, 99)] [0, 1, 2, 3, 4, 5, 6, 7, 8, 9, 10, 11, 12, 13, 14, 15, 16, 17, 18, 19, 20, 21, 22, 23]
            case hn => rfl
            case hm => kernel_rfl
            case hB => kernel_rfl
            case hds => kernel_rfl
            case hA => (intro p; simp only [putsD, Act.put, List.setIfInBounds_toArray, List.set_cons_zero, List.set_cons_succ, List.getD_cons_zero, List.getD_cons_succ]; exact rfl)
            case h0 => exact fun p => ⟨Nat.le_refl _, hB.drew, v.drew, f.drew, d.drew, z.drew⟩
            case hmore => exact fun p L w1 w2 ⟨hsz, hB, v, f, d, z⟩ hm => ⟨Nat.le_trans hsz hm.size, hB.trans (hm.mono (Nat.le_trans hW0 hsz)), v.below hm v.lt, f.below hm f.lt, d.below hm d.lt, z.below hm z.lt⟩
            case hs =>
              intro more
              refine stepV 0 rfl rfl (fun _ _ _ h => h) ?_ ?_
              · intros; go_simp; exact ⟨rfl, rfl⟩
              refine stepV 1 rfl rfl (fun _ _ _ h => h) ?_ ?_
              · intros; go_simp; exact ⟨rfl, rfl⟩
              refine stepV 2 rfl rfl (fun _ _ _ h => h) ?_ ?_
              · rintro p L w1 ⟨hsz, hB, v, f, d, z⟩ hk
                have L11 : L 11 = false := hk.2.2 11 rfl
                first | exact valR_row _ _ rfl _ rfl _ _ d _ Try.underlying39 rfl (by first | kernel_rfl | (rw [vfn_size]; kernel_rfl)) rfl | (have hc := d.cellIs (vfn_get _ (show 0 < 3 by omega)); go_simp; exact ⟨rfl, rfl⟩)
              refine stepV 3 rfl rfl (fun _ _ _ h => h) ?_ ?_
              · intros; go_simp; exact ⟨rfl, rfl⟩
              refine stepV 4 rfl rfl (fun _ _ _ h => h) ?_ ?_
              · intros; go_simp; exact ⟨rfl, rfl⟩
              refine stepV 5 rfl rfl (fun _ _ _ h => h) ?_ ?_
              · rintro p L w1 ⟨hsz, hB, v, f, d, z⟩ hk
                have L11 : L 11 = false := hk.2.2 11 rfl
                first | exact valR_row _ _ rfl _ rfl _ _ d _ Try.underlying39 rfl (by first | kernel_rfl | (rw [vfn_size]; kernel_rfl)) rfl | (have hc := d.cellIs (vfn_get _ (show 1 < 3 by omega)); go_simp; exact ⟨rfl, rfl⟩)
              refine stepV 6 rfl rfl (fun _ _ _ h => h) ?_ ?_
              · intros; go_simp; exact ⟨rfl, rfl⟩
              refine stepV 7 rfl rfl (fun _ _ _ h => h) ?_ ?_
              · intros; go_simp; exact ⟨rfl, rfl⟩
              refine stepV 8 rfl rfl (fun _ _ _ h => h) ?_ ?_
              · rintro p L w1 ⟨hsz, hB, v, f, d, z⟩ hk
                have L11 : L 11 = false := hk.2.2 11 rfl
                first | exact valR_row _ _ rfl _ rfl _ _ d _ Try.underlying39 rfl (by first | kernel_rfl | (rw [vfn_size]; kernel_rfl)) rfl | (have hc := d.cellIs (vfn_get _ (show 2 < 3 by omega)); go_simp; exact ⟨rfl, rfl⟩)
              refine stepV 9 rfl rfl (fun _ _ _ h => h) ?_ ?_
              · intros; go_simp; exact ⟨rfl, rfl⟩
              refine stepV 10 rfl rfl (fun _ _ _ h => h) ?_ ?_
              · intros; (try simp only [vfn, qfn]); go_simp; exact ⟨rfl, rfl⟩
              refine AllI.cons ?_ ?_
              · refine stepI_mut 11 rfl (fun p => rfl) (fun _ => f_b) (fun p => (fltc (ftF Q (mulF 2 l), fun _ => 0))) ?_ ?_
                · rintro p L w1 ⟨hsz, hB, v, f, d, z⟩ hk
                  have L11 : L 11 = false := hk.1
                  rw [L11] at f
                  try simp only [cond_true, cond_false] at f
                  go_simp
                  rw [mul_cells]
                  refine (PD.out _ f).mono ?_
                  rintro e w2 ⟨rfl, h2⟩
                  exact ⟨rfl, h2⟩
                · rintro p L w1 w2 ⟨hsz, hB, v, f, d, z⟩ hk hm
                  have L11 : L 11 = false := hk.1
                  refine ⟨Nat.le_trans hsz (by have := hm.size; simpa using this), (Below.setRow hB (by first | exact Nat.le_trans hW0 hp.1 | exact ge_f | omega | (have := hB.size; simp at this ⊢; omega)) _).trans (hm.mono (Nat.le_trans hW0 hsz)), (v.rowOther (by first | exact ne_v_f | exact Ne.symm ne_f_v | omega) _).below hm (by simpa using v.lt), ?_, (d.rowOther (by first | exact ne_d_f | exact Ne.symm ne_f_d | omega) _).below hm (by simpa using d.lt), (z.rowOther (by first | exact ne_z_f | exact Ne.symm ne_f_z | omega) _).below hm (by simpa using z.lt)⟩
                  rw [show upL L 11 11 = true from rfl]
                  exact (f.row _).below hm (by simpa using f.lt)
              refine stepV 12 rfl rfl (fun _ _ _ h => h) ?_ ?_
              · intros; go_simp; exact ⟨rfl, rfl⟩
              refine stepV 13 rfl rfl (fun _ _ _ h => h) ?_ ?_
              · intros; go_simp; exact ⟨rfl, rfl⟩
              refine stepVg 14 rfl (fun p => (by first | rfl | (simp [Region.wanted, yielded]; done))) (fun _ _ _ h => h) ?_ ?_
              · intros; go_simp; exact ⟨rfl, rfl⟩
              refine stepD 15 rfl (fun p => (by first | rfl | (simp [Region.wanted, yielded]; done))) (fun _ _ _ h => h) more ?_ ?_
              · rintro p L w1 ⟨hsz, hB, v, f, d, z⟩ hk
                have L11 : L 11 = true := hk.2.1 11 rfl
                rw [L11] at f
                try simp only [cond_true, cond_false] at f
                go_simp
                refine (AT2.out _ f).mono ?_
                rintro e w2 ⟨rfl, h2⟩
                first | exact ⟨rfl, h2⟩ | (subst h2; exact ⟨rfl, Below.refl _ _⟩)
              refine stepVg 16 rfl (fun p => (by first | rfl | (simp [Region.wanted, yielded]; done))) (fun _ _ _ h => h) ?_ ?_
              · rintro p L w1 ⟨hsz, hB, v, f, d, z⟩ hk
                have L11 : L 11 = true := hk.2.1 11 rfl
                first | exact valR_row _ _ rfl _ rfl _ _ z _ Try.underlying46 rfl (by first | kernel_rfl | (rw [qfn_size]; kernel_rfl)) rfl | (have hc := z.cellIs (qfn_get _ (show 0 < 4 by omega)); go_simp; exact ⟨rfl, rfl⟩)
              refine stepVg 17 rfl (fun p => (by first | rfl | (simp [Region.wanted, yielded]; done))) (fun _ _ _ h => h) ?_ ?_
              · intros; go_simp; exact ⟨rfl, rfl⟩
              refine stepV 18 rfl rfl (fun _ _ _ h => h) ?_ ?_
              · intros; go_simp; exact ⟨rfl, rfl⟩
              refine stepV 19 rfl rfl (fun _ _ _ h => h) ?_ ?_
              · intros; go_simp; exact ⟨rfl, rfl⟩
              refine stepVg 20 rfl (fun p => (by first | rfl | (simp [Region.wanted, yielded]; done))) (fun _ _ _ h => h) ?_ ?_
              · rintro p L w1 ⟨hsz, hB, v, f, d, z⟩ hk
                have L11 : L 11 = true := hk.2.1 11 rfl
                first | exact valR_row _ _ rfl _ rfl _ _ z _ Try.underlying46 rfl (by first | kernel_rfl | (rw [qfn_size]; kernel_rfl)) rfl | (have hc := z.cellIs (qfn_get _ (show 0 < 4 by omega)); go_simp; exact ⟨rfl, rfl⟩)
              refine stepD 21 rfl (fun p => (by first | rfl | (simp [Region.wanted, yielded]; done))) (fun _ _ _ h => h) more ?_ ?_
              · rintro p L w1 ⟨hsz, hB, v, f, d, z⟩ hk
                go_simp
                refine (VA.out _).mono ?_
                rintro e w2 ⟨rfl, h2⟩
                first | exact ⟨rfl, h2⟩ | (subst h2; exact ⟨rfl, Below.refl _ _⟩)
              refine stepVg 22 rfl (fun p => (by first | rfl | (simp [Region.wanted, yielded]; done))) (fun _ _ _ h => h) ?_ ?_
              · intros; go_simp; exact ⟨rfl, rfl⟩
              refine stepV 23 rfl rfl (fun _ _ _ h => h) ?_ ?_
              · intros; go_simp; exact ⟨rfl, rfl⟩
              exact AllI.nil
            case hV0 => exact fun p q => AllI.nil
            case he =>
            clear hB v f d z
            rintro p wrrr ⟨hsz, hB, v, f, d, z⟩
            replace f : blk wrrr f_b (fltc (ftF Q (mulF 2 l), fun _ => 0)) 91 := f
            clear lt_v
            clear lt_f
            clear lt_d
            clear lt_z
            clear hsz hW0
            clear E1
            go_wp2_with (fail)
            go_roundg (n - (K + 1))
            case rel => exact ⟨K + 1, ftF Q (mulF 2 l), by omega, rfl, FP, v, f, hB⟩
            case measure => omega
          | false =>
            simp only [hz] at EQ
            have e : ftF Q (mulF 2 l) = turnF Q (mulF 2 l) := by unfold ftF; rw [fol_z, hz]; rfl
            go_upto_region 17 with (first
              | (refine wpList_load_rowG ?hw _ _ rfl _ rfl _ _ _ _ d Try.underlying39 rfl ?hi ?_; (case hw => (first | rfl | (simp [Region.wanted, yielded]; done))); (case hi => (first | kernel_rfl | (rw [vfn_size]; kernel_rfl)))))
            clear EQ
            have lt_v := v.lt
            have lt_f := f.lt
            have lt_d := d.lt
            have lt_z := z.lt
            have hW0 : w.heap.size ≤ wrr.heap.size := by have := hB.size; first | exact this | simpa using this
            apply wp_region_Q 18 [0, 1, 3, 7, 15, 31, 63, 127, 255, 511, 1023, 2047, 4095, 8191, 16383, 32767, 65535, 131071] [15] [_, _, _, _, _, _, _, _, _, _, _, _, _, _, _, (fun p => .pointer (some ⟨p 15, 0, none⟩)), (fun _ => undef), _] (fun p L w' => wrr.heap.size ≤ w'.heap.size ∧ Below w.heap.size w w' ∧ blk w' w.heap.size (qfn q) 46 ∧ blk w' f_b (fltc (Q, fun _ => 0)) 91 ∧ blk w' d_b (vfn l) 39 ∧ blk w' z_b (qfn Q) 46 ∧ (L 15 = true → wrr.heap.size ≤ p 15 ∧ blk w' (p 15) (bif L 16 then (qfn (turnF Q (mulF 2 l))) else (qfn fun _ => 0)) 46)) _ [(0, 59), (1, 60), (2, 61), (3, 62), (4, 63), (5, 64), (6, 65), (7, 66), (8, 67), (9, 68), (10, 69), (11, 70), (12, 58), (13, 71), (14, 72), (15, 11), (17, 12)] [0, 1, 2, 3, 4, 5, 6, 7, 8, 9, 10, 11, 12, 13, 14, 15, 16, 17]
            case hn => rfl
            case hB => kernel_rfl
            case hds => kernel_rfl
            case hA => (intro p; simp only [putsD, Act.put, List.setIfInBounds_toArray, List.set_cons_zero, List.set_cons_succ, List.getD_cons_zero, List.getD_cons_succ]; exact rfl)
            case h0 => exact fun p => ⟨Nat.le_refl _, hB, v, f, d, z, fun h => absurd h (by decide)⟩
            case hmore => exact fun p L w1 w2 ⟨hsz, hB, v, f, d, z, h_u⟩ hm => ⟨Nat.le_trans hsz hm.size, hB.trans (hm.mono (Nat.le_trans hW0 hsz)), v.below hm v.lt, f.below hm f.lt, d.below hm d.lt, z.below hm z.lt, fun hl => ⟨(h_u hl).1, (h_u hl).2.below hm (h_u hl).2.lt⟩⟩
            case hs =>
              intro more
              refine stepV 0 rfl rfl (fun _ _ _ h => h) ?_ ?_
              · rintro p L w1 ⟨hsz, hB, v, f, d, z, h_u⟩ hk
                have L16 : L 16 = false := hk.2.2 16 rfl
                first | exact valR_row _ _ rfl _ rfl _ _ z _ Try.underlying46 rfl (by first | kernel_rfl | (rw [qfn_size]; kernel_rfl)) rfl | (have hc := z.cellIs (qfn_get _ (show 0 < 4 by omega)); go_simp; exact ⟨rfl, rfl⟩)
              refine stepV 1 rfl rfl (fun _ _ _ h => h) ?_ ?_
              · intros; go_simp; exact ⟨rfl, rfl⟩
              refine stepV 2 rfl rfl (fun _ _ _ h => h) ?_ ?_
              · rintro p L w1 ⟨hsz, hB, v, f, d, z, h_u⟩ hk
                have L16 : L 16 = false := hk.2.2 16 rfl
                first | exact valR_row _ _ rfl _ rfl _ _ d _ Try.underlying39 rfl (by first | kernel_rfl | (rw [vfn_size]; kernel_rfl)) rfl | (have hc := d.cellIs (vfn_get _ (show 0 < 3 by omega)); go_simp; exact ⟨rfl, rfl⟩)
              refine stepV 3 rfl rfl (fun _ _ _ h => h) ?_ ?_
              · intros; go_simp; exact ⟨rfl, rfl⟩
              refine stepV 4 rfl rfl (fun _ _ _ h => h) ?_ ?_
              · intros; go_simp; exact ⟨rfl, rfl⟩
              refine stepV 5 rfl rfl (fun _ _ _ h => h) ?_ ?_
              · rintro p L w1 ⟨hsz, hB, v, f, d, z, h_u⟩ hk
                have L16 : L 16 = false := hk.2.2 16 rfl
                first | exact valR_row _ _ rfl _ rfl _ _ d _ Try.underlying39 rfl (by first | kernel_rfl | (rw [vfn_size]; kernel_rfl)) rfl | (have hc := d.cellIs (vfn_get _ (show 1 < 3 by omega)); go_simp; exact ⟨rfl, rfl⟩)
              refine stepV 6 rfl rfl (fun _ _ _ h => h) ?_ ?_
              · intros; go_simp; exact ⟨rfl, rfl⟩
              refine stepV 7 rfl rfl (fun _ _ _ h => h) ?_ ?_
              · intros; go_simp; exact ⟨rfl, rfl⟩
              refine stepV 8 rfl rfl (fun _ _ _ h => h) ?_ ?_
              · rintro p L w1 ⟨hsz, hB, v, f, d, z, h_u⟩ hk
                have L16 : L 16 = false := hk.2.2 16 rfl
                first | exact valR_row _ _ rfl _ rfl _ _ d _ Try.underlying39 rfl (by first | kernel_rfl | (rw [vfn_size]; kernel_rfl)) rfl | (have hc := d.cellIs (vfn_get _ (show 2 < 3 by omega)); go_simp; exact ⟨rfl, rfl⟩)
              refine stepV 9 rfl rfl (fun _ _ _ h => h) ?_ ?_
              · intros; go_simp; exact ⟨rfl, rfl⟩
              refine stepV 10 rfl rfl (fun _ _ _ h => h) ?_ ?_
              · intros; (try simp only [vfn, qfn]); go_simp; exact ⟨rfl, rfl⟩
              refine stepD 11 rfl (fun p => rfl) (fun _ _ _ h => h) more ?_ ?_
              · rintro p L w1 ⟨hsz, hB, v, f, d, z, h_u⟩ hk
                go_simp
                rw [mul_cells]
                refine (TU.out _).mono ?_
                rintro e w2 ⟨rfl, h2⟩
                first | exact ⟨rfl, h2⟩ | (subst h2; exact ⟨rfl, Below.refl _ _⟩)
              refine stepV 12 rfl rfl (fun _ _ _ h => h) ?_ ?_
              · intros; go_simp; exact ⟨rfl, rfl⟩
              refine stepV 13 rfl rfl (fun _ _ _ h => h) ?_ ?_
              · intros; go_simp; exact ⟨rfl, rfl⟩
              refine stepV 14 rfl rfl (fun _ _ _ h => h) ?_ ?_
              · intros; go_simp; exact ⟨rfl, rfl⟩
              refine AllI.cons ?_ ?_
              · refine stepI_alloc 15 rfl (fun p => rfl) rfl (qfn fun _ => 0) 46 (fun p => rfl) ?_ ?_
                · intro p w1
                  go_simp
                  first | rfl | rw [zero_quat]
                rintro p L w1 ⟨hsz, hB, v, f, d, z, h_u⟩ hk
                have L16 : L 16 = false := hk.2.2 16 rfl
                refine ⟨Nat.le_trans hsz (by simp), hB.alloc (Nat.le_trans (by first | exact hW0 | (have := hB.size; simp at this ⊢; omega)) hsz) _, v.alloc _, f.alloc _, d.alloc _, z.alloc _, fun _ => ⟨hsz, ?_⟩⟩
                rw [show upL L 15 16 = false from L16]
                exact blk.new _ _ _
              refine AllI.cons ?_ ?_
              · refine stepI_store 16 rfl (fun p => rfl) (fun p => rfl) _ _ _ rfl (fun p => p 15) 0 (fun p => rfl) (fun p => (qfn (turnF Q (mulF 2 l)))) (fun p => rfl) (fun p => (qfn fun _ => 0)) (fun p => (qfn (turnF Q (mulF 2 l)))) 46 (fun p => over_qq _ _) (fun p => by first | (rw [qfn_size, qfn_size]; decide) | simp [qfn_size, qfn_size]) (fun p => by rw [qfn_size]; kernel_rfl) (fun p => qfn_one _) ?_ ?_
                · rintro p L w1 ⟨hsz, hB, v, f, d, z, h_u⟩ hk
                  have L16 : L 16 = false := hk.1
                  have hh := (h_u (hk.2.1 15 rfl)).2
                  rw [L16] at hh
                  try simp only [cond_true, cond_false] at hh
                  exact hh
                · rintro p L w1 ⟨hsz, hB, v, f, d, z, h_u⟩ hk
                  have L16 : L 16 = false := hk.1
                  skip
                  have hp := h_u (hk.2.1 15 rfl)
                  refine ⟨(by simpa using hsz), Below.setRow hB (by first | exact Nat.le_trans hW0 hp.1 | exact ge_u | omega | (have := hB.size; simp at this ⊢; omega)) _, v.rowOther (by first | exact Nat.ne_of_lt (Nat.lt_of_lt_of_le lt_v hp.1) | omega) _, f.rowOther (by first | exact Nat.ne_of_lt (Nat.lt_of_lt_of_le lt_f hp.1) | omega) _, d.rowOther (by first | exact Nat.ne_of_lt (Nat.lt_of_lt_of_le lt_d hp.1) | omega) _, z.rowOther (by first | exact Nat.ne_of_lt (Nat.lt_of_lt_of_le lt_z hp.1) | omega) _, fun _ => ⟨hp.1, ?_⟩⟩
                  rw [show upL L 16 16 = true from rfl]
                  exact hp.2.row _
              refine stepV 17 rfl rfl (fun _ _ _ h => h) ?_ ?_
              · intros; go_simp; exact ⟨rfl, rfl⟩
              exact AllI.nil
            case hV0 =>
              intro p q
              refine AllI.cons ?_ ?_
              · skip
                iterate 18 (refine AllI.cons (by first | exact .inl rfl | (refine .inr ?_; simp only [List.getD_cons_zero, List.getD_cons_succ]; done) | exact .inr rfl) ?_)
                exact AllI.nil
              exact AllI.nil
            case he =>
            clear hB v f d z
            rintro p wrrr ⟨hsz, hB, v, f, d, z, h_u⟩
            obtain ⟨le_u, u⟩ := h_u rfl
            clear h_u
            replace u : blk wrrr (p 15) (qfn (turnF Q (mulF 2 l))) 46 := u
            have ne_v_u : w.heap.size ≠ p 15 := Nat.ne_of_lt (Nat.lt_of_lt_of_le lt_v le_u)
            have ne_f_u : f_b ≠ p 15 := Nat.ne_of_lt (Nat.lt_of_lt_of_le lt_f le_u)
            have ne_d_u : d_b ≠ p 15 := Nat.ne_of_lt (Nat.lt_of_lt_of_le lt_d le_u)
            have ne_z_u : z_b ≠ p 15 := Nat.ne_of_lt (Nat.lt_of_lt_of_le lt_z le_u)
            have ge_u : w.heap.size ≤ p 15 := Nat.le_trans hW0 le_u
            generalize p 15 = u_b at *
            clear lt_v
            clear lt_f
            clear lt_d
            clear lt_z
            clear hsz hW0
            go_upto_region 20 with (fail)
            have ne_q_u2 : z_b ≠ u_b := ne_z_u
            have lt_v := v.lt
            have lt_f := f.lt
            have lt_d := d.lt
            have lt_z := z.lt
            have lt_u := u.lt
            have hW0 : w.heap.size ≤ wrrr.heap.size := by have := hB.size; first | exact this | simpa using this
            apply wp_region_Q 2 [0, 1] [] [_, (fun _ => undef)] (fun p L w' => wrrr.heap.size ≤ w'.heap.size ∧ Below w.heap.size w w' ∧ blk w' w.heap.size (qfn q) 46 ∧ blk w' f_b (fltc (Q, fun _ => 0)) 91 ∧ blk w' d_b (vfn l) 39 ∧ blk w' z_b (bif L 1 then (qfn (turnF Q (mulF 2 l))) else (qfn Q)) 46 ∧ blk w' u_b (qfn (turnF Q (mulF 2 l))) 46) _ [(0, 75)] [0, 1]
            case hn => rfl
            case hB => kernel_rfl
            case hds => kernel_rfl
            case hA => (intro p; simp only [putsD, Act.put, List.setIfInBounds_toArray, List.set_cons_zero, List.set_cons_succ, List.getD_cons_zero, List.getD_cons_succ]; exact rfl)
            case h0 => exact fun p => ⟨Nat.le_refl _, hB, v, f, d, z, u⟩
            case hmore => exact fun p L w1 w2 ⟨hsz, hB, v, f, d, z, u⟩ hm => ⟨Nat.le_trans hsz hm.size, hB.trans (hm.mono (Nat.le_trans hW0 hsz)), v.below hm v.lt, f.below hm f.lt, d.below hm d.lt, z.below hm z.lt, u.below hm u.lt⟩
            case hs =>
              intro more
              refine stepV 0 rfl rfl (fun _ _ _ h => h) ?_ ?_
              · rintro p L w1 ⟨hsz, hB, v, f, d, z, u⟩ hk
                have L1 : L 1 = false := hk.2.2 1 rfl
                first | exact valR_row _ _ rfl _ rfl _ _ u _ Try.underlying46 rfl (by first | kernel_rfl | (rw [qfn_size]; kernel_rfl)) rfl | (have hc := u.cellIs (qfn_get _ (show 0 < 4 by omega)); go_simp; exact ⟨rfl, rfl⟩)
              refine AllI.cons ?_ ?_
              · refine stepI_store 1 rfl (fun p => rfl) (fun p => rfl) _ _ _ rfl (fun _ => z_b) 0 (fun p => rfl) (fun p => (qfn (turnF Q (mulF 2 l)))) (fun p => rfl) (fun p => (qfn Q)) (fun p => (qfn (turnF Q (mulF 2 l)))) 46 (fun p => over_qq _ _) (fun p => by first | (rw [qfn_size, qfn_size]; decide) | simp [qfn_size, qfn_size]) (fun p => by rw [qfn_size]; kernel_rfl) (fun p => qfn_one _) ?_ ?_
                · rintro p L w1 ⟨hsz, hB, v, f, d, z, u⟩ hk
                  have L1 : L 1 = false := hk.1
                  rw [L1] at z
                  try simp only [cond_true, cond_false] at z
                  exact z
                · rintro p L w1 ⟨hsz, hB, v, f, d, z, u⟩ hk
                  have L1 : L 1 = false := hk.1
                  skip
                  refine ⟨(by simpa using hsz), Below.setRow hB (by first | exact Nat.le_trans hW0 hp.1 | exact ge_z | omega | (have := hB.size; simp at this ⊢; omega)) _, v.rowOther (by first | exact ne_v_z | exact Ne.symm ne_z_v | omega) _, f.rowOther (by first | exact ne_f_z | exact Ne.symm ne_z_f | omega) _, d.rowOther (by first | exact ne_d_z | exact Ne.symm ne_z_d | omega) _, ?_, u.rowOther (by first | exact ne_u_z | exact Ne.symm ne_z_u | omega) _⟩
                  rw [show upL L 1 1 = true from rfl]
                  exact z.row _
              exact AllI.nil
            case hV0 => exact fun p q => AllI.nil
            case he =>
            clear hB v f d z u
            rintro p wrrrr ⟨hsz, hB, v, f, d, z, u⟩
            replace z : blk wrrrr z_b (qfn (turnF Q (mulF 2 l))) 46 := z
            clear lt_v
            clear lt_f
            clear lt_d
            clear lt_z
            clear lt_u
            clear hsz hW0
            clear u
            rw [← e] at z
            clear e
            have E1 := quat_eq_self (ftF Q (mulF 2 l))
            go_upto_region 21 with (fail)
            have lt_v := v.lt
            have lt_f := f.lt
            have lt_d := d.lt
            have lt_z := z.lt
            have hW0 : w.heap.size ≤ wrrrr.heap.size := by have := hB.size; first | exact this | simpa using this
            apply wp_region_I 24 [0, 0, 2, 6, 0, 16, 48, 0, 128, 384, 1022, 2047, 4095, 8191, 16383, 32767, 16383, 131071, 262143, 524287, 1048575, 2097151, 4194303, 8388607] [] [_, _, _, _, _, _, _, _, _, _, _, _, _, _, _, _, _, _, _, _, _, _, _, _] (fun p L w' => wrrrr.heap.size ≤ w'.heap.size ∧ Below w.heap.size w w' ∧ blk w' w.heap.size (qfn q) 46 ∧ blk w' f_b (bif L 11 then (fltc (ftF Q (mulF 2 l), fun _ => 0)) else (fltc (Q, fun _ => 0))) 91 ∧ blk w' d_b (vfn l) 39 ∧ blk w' z_b (qfn (ftF Q (mulF 2 l))) 46) _ [(0, 76), (1, 77), (2, 78), (3, 79), (4, 80), (5, 81), (6, 82), (7, 83), (8, 84), (9, 85), (10, 86), (11, 87), (12, 88), (13, 89), (14, 90), (15, 91), (16, 92), (17, 93), (18, 94), (19, 95), (20, 96), (21, 97), (22, 98), (23, 99)] [0, 1, 2, 3, 4, 5, 6, 7, 8, 9, 10, 11, 12, 13, 14, 15, 16, 17, 18, 19, 20, 21, 22, 23]
            case hn => rfl
            case hm => kernel_rfl
            case hB => kernel_rfl
            case hds => kernel_rfl
            case hA => (intro p; simp only [putsD, Act.put, List.setIfInBounds_toArray, List.set_cons_zero, List.set_cons_succ, List.getD_cons_zero, List.getD_cons_succ]; exact rfl)
            case h0 => exact fun p => ⟨Nat.le_refl _, hB.drew, v.drew, f.drew, d.drew, z.drew⟩
            case hmore => exact fun p L w1 w2 ⟨hsz, hB, v, f, d, z⟩ hm => ⟨Nat.le_trans hsz hm.size, hB.trans (hm.mono (Nat.le_trans hW0 hsz)), v.below hm v.lt, f.below hm f.lt, d.below hm d.lt, z.below hm z.lt⟩
            case hs =>
              intro more
              refine stepV 0 rfl rfl (fun _ _ _ h => h) ?_ ?_
              · intros; go_simp; exact ⟨rfl, rfl⟩
              refine stepV 1 rfl rfl (fun _ _ _ h => h) ?_ ?_
              · intros; go_simp; exact ⟨rfl, rfl⟩
              refine stepV 2 rfl rfl (fun _ _ _ h => h) ?_ ?_
              · rintro p L w1 ⟨hsz, hB, v, f, d, z⟩ hk
                have L11 : L 11 = false := hk.2.2 11 rfl
                first | exact valR_row _ _ rfl _ rfl _ _ d _ Try.underlying39 rfl (by first | kernel_rfl | (rw [vfn_size]; kernel_rfl)) rfl | (have hc := d.cellIs (vfn_get _ (show 0 < 3 by omega)); go_simp; exact ⟨rfl, rfl⟩)
              refine stepV 3 rfl rfl (fun _ _ _ h => h) ?_ ?_
              · intros; go_simp; exact ⟨rfl, rfl⟩
              refine stepV 4 rfl rfl (fun _ _ _ h => h) ?_ ?_
              · intros; go_simp; exact ⟨rfl, rfl⟩
              refine stepV 5 rfl rfl (fun _ _ _ h => h) ?_ ?_
              · rintro p L w1 ⟨hsz, hB, v, f, d, z⟩ hk
                have L11 : L 11 = false := hk.2.2 11 rfl
                first | exact valR_row _ _ rfl _ rfl _ _ d _ Try.underlying39 rfl (by first | kernel_rfl | (rw [vfn_size]; kernel_rfl)) rfl | (have hc := d.cellIs (vfn_get _ (show 1 < 3 by omega)); go_simp; exact ⟨rfl, rfl⟩)
              refine stepV 6 rfl rfl (fun _ _ _ h => h) ?_ ?_
              · intros; go_simp; exact ⟨rfl, rfl⟩
              refine stepV 7 rfl rfl (fun _ _ _ h => h) ?_ ?_
              · intros; go_simp; exact ⟨rfl, rfl⟩
              refine stepV 8 rfl rfl (fun _ _ _ h => h) ?_ ?_
              · rintro p L w1 ⟨hsz, hB, v, f, d, z⟩ hk
                have L11 : L 11 = false := hk.2.2 11 rfl
                first | exact valR_row _ _ rfl _ rfl _ _ d _ Try.underlying39 rfl (by first | kernel_rfl | (rw [vfn_size]; kernel_rfl)) rfl | (have hc := d.cellIs (vfn_get _ (show 2 < 3 by omega)); go_simp; exact ⟨rfl, rfl⟩)
              refine stepV 9 rfl rfl (fun _ _ _ h => h) ?_ ?_
              · intros; go_simp; exact ⟨rfl, rfl⟩
              refine stepV 10 rfl rfl (fun _ _ _ h => h) ?_ ?_
              · intros; (try simp only [vfn, qfn]); go_simp; exact ⟨rfl, rfl⟩
              refine AllI.cons ?_ ?_
              · refine stepI_mut 11 rfl (fun p => rfl) (fun _ => f_b) (fun p => (fltc (ftF Q (mulF 2 l), fun _ => 0))) ?_ ?_
                · rintro p L w1 ⟨hsz, hB, v, f, d, z⟩ hk
                  have L11 : L 11 = false := hk.1
                  rw [L11] at f
                  try simp only [cond_true, cond_false] at f
                  go_simp
                  rw [mul_cells]
                  refine (PD.out _ f).mono ?_
                  rintro e w2 ⟨rfl, h2⟩
                  exact ⟨rfl, h2⟩
                · rintro p L w1 w2 ⟨hsz, hB, v, f, d, z⟩ hk hm
                  have L11 : L 11 = false := hk.1
                  refine ⟨Nat.le_trans hsz (by have := hm.size; simpa using this), (Below.setRow hB (by first | exact Nat.le_trans hW0 hp.1 | exact ge_f | omega | (have := hB.size; simp at this ⊢; omega)) _).trans (hm.mono (Nat.le_trans hW0 hsz)), (v.rowOther (by first | exact ne_v_f | exact Ne.symm ne_f_v | omega) _).below hm (by simpa using v.lt), ?_, (d.rowOther (by first | exact ne_d_f | exact Ne.symm ne_f_d | omega) _).below hm (by simpa using d.lt), (z.rowOther (by first | exact ne_z_f | exact Ne.symm ne_f_z | omega) _).below hm (by simpa using z.lt)⟩
                  rw [show upL L 11 11 = true from rfl]
                  exact (f.row _).below hm (by simpa using f.lt)
              refine stepV 12 rfl rfl (fun _ _ _ h => h) ?_ ?_
              · intros; go_simp; exact ⟨rfl, rfl⟩
              refine stepV 13 rfl rfl (fun _ _ _ h => h) ?_ ?_
              · intros; go_simp; exact ⟨rfl, rfl⟩
              refine stepVg 14 rfl (fun p => (by first | rfl | (simp [Region.wanted, yielded]; done))) (fun _ _ _ h => h) ?_ ?_
              · intros; go_simp; exact ⟨rfl, rfl⟩
              refine stepD 15 rfl (fun p => (by first | rfl | (simp [Region.wanted, yielded]; done))) (fun _ _ _ h => h) more ?_ ?_
              · rintro p L w1 ⟨hsz, hB, v, f, d, z⟩ hk
                have L11 : L 11 = true := hk.2.1 11 rfl
                rw [L11] at f
                try simp only [cond_true, cond_false] at f
                go_simp
                refine (AT2.out _ f).mono ?_
                rintro e w2 ⟨rfl, h2⟩
                first | exact ⟨rfl, h2⟩ | (subst h2; exact ⟨rfl, Below.refl _ _⟩)
              refine stepVg 16 rfl (fun p => (by first | rfl | (simp [Region.wanted, yielded]; done))) (fun _ _ _ h => h) ?_ ?_
              · rintro p L w1 ⟨hsz, hB, v, f, d, z⟩ hk
                have L11 : L 11 = true := hk.2.1 11 rfl
                first | exact valR_row _ _ rfl _ rfl _ _ z _ Try.underlying46 rfl (by first | kernel_rfl | (rw [qfn_size]; kernel_rfl)) rfl | (have hc := z.cellIs (qfn_get _ (show 0 < 4 by omega)); go_simp; exact ⟨rfl, rfl⟩)
              refine stepVg 17 rfl (fun p => (by first | rfl | (simp [Region.wanted, yielded]; done))) (fun _ _ _ h => h) ?_ ?_
              · intros; go_simp; exact ⟨rfl, rfl⟩
              refine stepV 18 rfl rfl (fun _ _ _ h => h) ?_ ?_
              · intros; go_simp; exact ⟨rfl, rfl⟩
              refine stepV 19 rfl rfl (fun _ _ _ h => h) ?_ ?_
              · intros; go_simp; exact ⟨rfl, rfl⟩
              refine stepVg 20 rfl (fun p => (by first | rfl | (simp [Region.wanted, yielded]; done))) (fun _ _ _ h => h) ?_ ?_
              · rintro p L w1 ⟨hsz, hB, v, f, d, z⟩ hk
                have L11 : L 11 = true := hk.2.1 11 rfl
                first | exact valR_row _ _ rfl _ rfl _ _ z _ Try.underlying46 rfl (by first | kernel_rfl | (rw [qfn_size]; kernel_rfl)) rfl | (have hc := z.cellIs (qfn_get _ (show 0 < 4 by omega)); go_simp; exact ⟨rfl, rfl⟩)
              refine stepD 21 rfl (fun p => (by first | rfl | (simp [Region.wanted, yielded]; done))) (fun _ _ _ h => h) more ?_ ?_
              · rintro p L w1 ⟨hsz, hB, v, f, d, z⟩ hk
                go_simp
                refine (VA.out _).mono ?_
                rintro e w2 ⟨rfl, h2⟩
                first | exact ⟨rfl, h2⟩ | (subst h2; exact ⟨rfl, Below.refl _ _⟩)
              refine stepVg 22 rfl (fun p => (by first | rfl | (simp [Region.wanted, yielded]; done))) (fun _ _ _ h => h) ?_ ?_
              · intros; go_simp; exact ⟨rfl, rfl⟩
              refine stepV 23 rfl rfl (fun _ _ _ h => h) ?_ ?_
              · intros; go_simp; exact ⟨rfl, rfl⟩
              exact AllI.nil
            case hV0 => exact fun p q => AllI.nil
            case he =>
            clear hB v f d z
            rintro p wrrrrr ⟨hsz, hB, v, f, d, z⟩
            replace f : blk wrrrrr f_b (fltc (ftF Q (mulF 2 l), fun _ => 0)) 91 := f
            clear lt_v
            clear lt_f
            clear lt_d
            clear lt_z
            clear hsz hW0
            clear E1
            go_wp2_with (fail)
            go_roundg (n - (K + 1))
            case rel => exact ⟨K + 1, ftF Q (mulF 2 l), by omega, rfl, FP, v, f, hB⟩
            case measure => omega
    · obtain rfl : K = n := by omega
      have hdK : decide ((K : Int) < K) = false := decide_eq_false (by omega)
      have hdK' : decide (K < K) = false := decide_eq_false (by omega)
      go_wp2_with (first
        | (refine wpList_load_rowG ?hw _ _ rfl _ rfl _ _ _ _ v Try.underlying46 rfl ?hi ?_; (case hw => (first | rfl | (simp [Region.wanted, yielded]; done))); (case hi => (first | kernel_rfl | (rw [qfn_size]; kernel_rfl))))
        | (go_at_call 25; with_reducible refine (AW.out _).mono ?_; rintro e w9 ⟨rfl, hb⟩; replace hB := hB.trans (hb.mono hB.size); replace v := v.below hb v.lt; replace f := f.below hb f.lt; clear hb))
      go_ret
      exact ⟨rfl, hB⟩
theorem gfollows_any (q : Nat → Int) (a : Option Addr) (n c : Nat) (x : Nat → Nat → Int) (w : World) (el : ElemsA w a n 3 (fun k => (vfn (x k)).toList)) (hq : ∀ i, i < 4 → I64 (q i)) :
    Calls Try.prog 5 #[.agg (qfn q), .slice a n c] w fun e w' => e = .returned (.bool true) ∧ Below w.heap.size w w' := by
  cases hv : validQ q with
  | false => exact gfollows_no q a n c w hq hv
  | true =>
    by_cases hn : 60 < n
    · exact gfollows_long q a n c w hn hq hv
    · exact gfollows_ok q a n c x w (by omega) hv el hq
end Go.Proofs.Ytnkjbdfhdenbcaa
