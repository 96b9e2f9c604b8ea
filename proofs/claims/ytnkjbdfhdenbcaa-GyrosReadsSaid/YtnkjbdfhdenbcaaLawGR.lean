/-
  Gyros are as specified.
-/
import Derived.Test.YtnkjbdfhdenbcaaAw21
import Derived.Test.YtnkjbdfhdenbcaaFlS
import Derived.Test.YtnkjbdfhdenbcaaArgH
set_option linter.unusedSimpArgs false
set_option linter.unusedVariables false
namespace Go.Proofs.Ytnkjbdfhdenbcaa
open Go.RowKit PM Dt
def rdE (R Z : Nat → Int) : Int := if okV R && okV Z then 0 else 2
def rdF (G R Z : Nat → Int) : Nat → Int := if okV R && okV Z then readF G R Z else fun _ => 0
def drE (R : Nat → Int) : Int := if okV R then 0 else 2
def drQ (G R : Nat → Int) : Nat → Int := if okV R then drF G R else G
theorem clampV_bd' (x : Int) : -16777216 ≤ clampV x (-16777216) 16777216 ∧ clampV x (-16777216) 16777216 ≤ 16777216 := by
  unfold clampV; split <;> (try split) <;> omega
theorem GI.dr {G : Nat → Int} (h : GI G) (R : Nat → Int) : GI (drQ G R) := by
  unfold drQ
  split
  · refine ⟨fun i hi => ?_, ?_⟩
    · rw [drF_at G R hi]; exact clampV_bd' _
    · exact h.2
  · exact h
theorem GI.new {B : Nat → Int} {m : Int} (h : gyOk B m = true) : GI (gyS B m) := by
  simp only [gyOk, Bool.and_eq_true, decide_eq_true_eq] at h
  refine ⟨fun i hi => ?_, h.2⟩
  have := small_bd h.1 i hi
  rcases (show i = 0 ∨ i = 1 ∨ i = 2 by omega) with rfl | rfl | rfl <;> exact this
theorem gread_any (G R Z : Nat → Int) (b : Nat) (w : World) (hg : blk w b (qfn G) 88) (hG : GI G) : Calls Try.prog 34 #[.pointer (some ⟨b, 0, none⟩), .agg (vfn R), .agg (vfn Z)] w fun e w' => e = .returned (.tuple #[.agg (vfn (rdF G R Z)), .int .i64 (rdE R Z)]) ∧ Below w.heap.size w w' := by
  unfold rdF rdE
  cases hR : okV R with
  | false => exact gread_no1 G R Z b w hg hG hR
  | true =>
    cases hZ : okV Z with
    | false => exact gread_no2 G R Z b w hg hG hR hZ
    | true => exact gread_ok G R Z b w hg hG hR hZ (ok_bd hR) (ok_bd hZ)
theorem rgread_any (G R Z : Nat → Int) (w : World) (hG : GI G) : Calls Try.prog 35 #[.agg (qfn G), .agg (vfn R), .agg (vfn Z)] w fun e w' => e = .returned (.tuple #[.agg (vfn (rdF G R Z)), .int .i64 (rdE R Z)]) ∧ Below w.heap.size w w' := by
  unfold rdF rdE
  cases hR : okV R with
  | false => exact rgread_no1 G R Z w hR
  | true =>
    cases hZ : okV Z with
    | false => exact rgread_no2 G R Z w hR hZ
    | true => exact rgread_ok G R Z w hG hR hZ
theorem gdrift_any (G R : Nat → Int) (b : Nat) (w : World) (hg : blk w b (qfn G) 88) (hG : GI G) : Calls Try.prog 32 #[.pointer (some ⟨b, 0, none⟩), .agg (vfn R)] w fun e w' => e = .returned (.int .i64 (drE R)) ∧ Below w.heap.size (w.setRow b (qfn (drQ G R))) w' := by
  unfold drE drQ
  cases hR : okV R with
  | false =>
    have e : w.setRow b (qfn G) = w := setRow_self w b _ _ _ hg
    rw [if_neg (by decide), if_neg (by decide), e]
    exact gdrift_no G R b w hg (by have := hG.2; omega) hR
  | true => exact gdrift_ok G R b w hg hG hR
theorem rgdrift_any (G R : Nat → Int) (w : World) (hG : GI G) : Calls Try.prog 33 #[.agg (qfn G), .agg (vfn R)] w fun e w' => e = .returned (.tuple #[.agg (qfn (drQ G R)), .int .i64 (drE R)]) ∧ Below w.heap.size w w' := by
  unfold drE drQ
  cases hR : okV R with
  | false => exact rgdrift_no G R w hR
  | true => exact rgdrift_ok G R w hG.1 hR
theorem newG_no (B : Nat → Int) (m : Int) (w : World) (h : gyOk B m = false) : Calls Try.prog 30 #[.agg (vfn B), .int .i64 m] w fun e w' => e = .returned (.tuple #[.pointer none, .int .i64 2]) ∧ Below w.heap.size w w' := by
  cases h1 : smallB B 16777216 with
  | false => exact newG_no1 B m w h1
  | true =>
    cases h2 : decide (m < 1) with
    | true => exact newG_no2 B m w h1 h2
    | false =>
      cases h3 : decide (1099511627776 < m) with
      | true => exact newG_no3 B m w h1 h2 h3
      | false =>
        exfalso
        simp only [decide_eq_false_iff_not] at h2 h3
        unfold gyOk at h
        rw [h1, decide_eq_true (by omega), decide_eq_true (by omega)] at h
        cases h
theorem rnewG_no (B : Nat → Int) (m : Int) (w : World) (h : gyOk B m = false) : Calls Try.prog 31 #[.agg (vfn B), .int .i64 m] w fun e w' => e = .returned (.tuple #[.agg (qfn fun _ => 0), .int .i64 2]) ∧ Below w.heap.size w w' := by
  cases h1 : smallB B 16777216 with
  | false => exact rnewG_no1 B m w h1
  | true =>
    cases h2 : decide (m < 1) with
    | true => exact rnewG_no2 B m w h1 h2
    | false =>
      cases h3 : decide (1099511627776 < m) with
      | true => exact rnewG_no3 B m w h1 h2 h3
      | false =>
        exfalso
        simp only [decide_eq_false_iff_not] at h2 h3
        unfold gyOk at h
        rw [h1, decide_eq_true (by omega), decide_eq_true (by omega)] at h
        cases h
theorem gy_tests {B : Nat → Int} {m : Int} (h : gyOk B m = true) : smallB B 16777216 = true ∧ decide (m < 1) = false ∧ decide (1099511627776 < m) = false := by
  simp only [gyOk, Bool.and_eq_true, decide_eq_true_eq] at h
  exact ⟨h.1, decide_eq_false (by omega), decide_eq_false (by omega)⟩
set_option maxRecDepth 100000 in
set_option maxHeartbeats 4000000 in
theorem greads_no (B : Nat → Int) (m : Int) (a : Option Addr) (n c : Nat) (w : World) (hn : 60 < n) : Calls Try.prog 6 #[.agg (vfn B), .int .i64 m, .slice a n c] w fun e w' => e = .returned (.bool true) ∧ Below w.heap.size w w' := by
  have AW := Lib.hid (fun w => awake21_any w)
  have d1 : decide ((60 : Int) < (n : Int)) = true := decide_eq_true (by omega)
  have d2 : decide (60 < n) = true := decide_eq_true (by omega)
  go_enter Try.func6, Try.ntmps6
  go_upto_region 1 with (fail)
  have v : blk (w.alloc (.cells (vfn B) 39)) w.heap.size (vfn B) 39 := blk.new _ _ _
  have hB : Below w.heap.size w (w.alloc (.cells (vfn B) 39)) := by go_grown
  generalize (w.alloc (.cells (vfn B) 39)) = w0 at *
  go_wp2_with (first
    | (refine wpList_load_rowG ?hw _ _ rfl _ rfl _ _ _ _ v Try.underlying39 rfl ?hi ?_; (case hw => (first | rfl | (simp [Region.wanted, yielded]; done))); (case hi => (first | kernel_rfl | (rw [vfn_size]; kernel_rfl))))
    | (go_at_call 25; with_reducible refine (AW.out _).mono ?_; rintro e w9 ⟨rfl, hb⟩; replace hB := hB.trans (hb.mono hB.size); replace v := v.below hb v.lt; clear hb))
  go_ret
  exact ⟨rfl, hB⟩
set_option maxRecDepth 100000 in
set_option maxHeartbeats 4000000 in
theorem greads_in (B : Nat → Int) (m : Int) (a : Option Addr) (n c : Nat) (w : World) (hn : n ≤ 60) (hv : gyOk B m = false) : Calls Try.prog 6 #[.agg (vfn B), .int .i64 m, .slice a n c] w fun e w' => e = .returned (.bool true) ∧ Below w.heap.size w w' := by
  have AW := Lib.hid (fun w => awake21_any w)
  have d1 : decide ((60 : Int) < (n : Int)) = false := decide_eq_false (by omega)
  have d2 : decide (60 < n) = false := decide_eq_false (by omega)
  have NF := Lib.hid (fun w => newG_no B m w hv)
  have NR := Lib.hid (fun w => rnewG_no B m w hv)
  clear hv
  go_enter Try.func6, Try.ntmps6
  go_upto_region 1 with (fail)
  have v : blk (w.alloc (.cells (vfn B) 39)) w.heap.size (vfn B) 39 := blk.new _ _ _
  have hB : Below w.heap.size w (w.alloc (.cells (vfn B) 39)) := by go_grown
  generalize (w.alloc (.cells (vfn B) 39)) = w0 at *
  go_upto_region 3 with (fail)
  have lt_v := v.lt
  have hW0 : w.heap.size ≤ w0.heap.size := by have := hB.size; first | exact this | simpa using this
  apply wp_region_Q 8 [0, 1, 3, 7, 15, 31, 63, 127] [] [_, _, _, _, _, _, _, _] (fun p L w' => w0.heap.size ≤ w'.heap.size ∧ Below w.heap.size w w' ∧ blk w' w.heap.size (vfn B) 39) _ [(0, 21), (1, 22), (2, 23), (3, 20), (4, 24), (5, 25), (6, 7), (7, 8)] [0, 1, 2, 3, 4, 5, 6, 7]
  case hn => rfl
  case hB => kernel_rfl
  case hds => kernel_rfl
  case hA => (intro p; simp only [putsD, Act.put, List.setIfInBounds_toArray, List.set_cons_zero, List.set_cons_succ, List.getD_cons_zero, List.getD_cons_succ]; exact rfl)
  case h0 => exact fun p => ⟨Nat.le_refl _, hB, v⟩
  case hmore => exact fun p L w1 w2 ⟨hsz, hB, v⟩ hm => ⟨Nat.le_trans hsz hm.size, hB.trans (hm.mono (Nat.le_trans hW0 hsz)), v.below hm v.lt⟩
  case hs =>
    intro more
    refine stepV 0 rfl rfl (fun _ _ _ h => h) ?_ ?_
    · rintro p L w1 ⟨hsz, hB, v⟩ hk
      first | exact valR_row _ _ rfl _ rfl _ _ v _ Try.underlying39 rfl (by first | kernel_rfl | (rw [vfn_size]; kernel_rfl)) rfl | (have hc := v.cellIs (vfn_get _ (show 0 < 3 by omega)); go_simp; exact ⟨rfl, rfl⟩)
    refine stepV 1 rfl rfl (fun _ _ _ h => h) ?_ ?_
    · intros; go_simp; exact ⟨rfl, rfl⟩
    refine stepD 2 rfl (fun p => rfl) (fun _ _ _ h => h) more ?_ ?_
    · rintro p L w1 ⟨hsz, hB, v⟩ hk
      go_simp
      refine (NF.out _).mono ?_
      rintro e w2 ⟨rfl, h2⟩
      first | exact ⟨rfl, h2⟩ | (subst h2; exact ⟨rfl, Below.refl _ _⟩)
    refine stepV 3 rfl rfl (fun _ _ _ h => h) ?_ ?_
    · intros; go_simp; exact ⟨rfl, rfl⟩
    refine stepV 4 rfl rfl (fun _ _ _ h => h) ?_ ?_
    · intros; go_simp; exact ⟨rfl, rfl⟩
    refine stepV 5 rfl rfl (fun _ _ _ h => h) ?_ ?_
    · intros; go_simp; exact ⟨rfl, rfl⟩
    refine stepV 6 rfl rfl (fun _ _ _ h => h) ?_ ?_
    · intros; go_simp; exact ⟨rfl, rfl⟩
    refine stepV 7 rfl rfl (fun _ _ _ h => h) ?_ ?_
    · intros; go_simp; exact ⟨rfl, rfl⟩
    exact AllI.nil
  case hV0 => exact fun p q => AllI.nil
  case he =>
  clear hB v
  rintro p w0r ⟨hsz, hB, v⟩
  clear lt_v
  clear hsz hW0
  go_upto_region 4 with (fail)
  have lt_v := v.lt
  have hW0 : w.heap.size ≤ w0r.heap.size := by have := hB.size; first | exact this | simpa using this
  apply wp_region_Q 9 [0, 1, 3, 7, 15, 31, 63, 127, 255] [6] [_, _, _, _, _, _, (fun p => .pointer (some ⟨p 6, 0, none⟩)), (fun _ => undef), _] (fun p L w' => w0r.heap.size ≤ w'.heap.size ∧ Below w.heap.size w w' ∧ blk w' w.heap.size (vfn B) 39 ∧ (L 6 = true → w0r.heap.size ≤ p 6 ∧ blk w' (p 6) (bif L 7 then (qfn (fun _ => 0)) else (qfn fun _ => 0)) 62)) _ [(0, 27), (1, 28), (2, 29), (3, 26), (4, 30), (5, 31), (6, 9), (8, 10)] [0, 1, 2, 3, 4, 5, 6, 7, 8]
  case hn => rfl
  case hB => kernel_rfl
  case hds => kernel_rfl
  case hA => (intro p; simp only [putsD, Act.put, List.setIfInBounds_toArray, List.set_cons_zero, List.set_cons_succ, List.getD_cons_zero, List.getD_cons_succ]; exact rfl)
  case h0 => exact fun p => ⟨Nat.le_refl _, hB, v, fun h => absurd h (by decide)⟩
  case hmore => exact fun p L w1 w2 ⟨hsz, hB, v, h_r⟩ hm => ⟨Nat.le_trans hsz hm.size, hB.trans (hm.mono (Nat.le_trans hW0 hsz)), v.below hm v.lt, fun hl => ⟨(h_r hl).1, (h_r hl).2.below hm (h_r hl).2.lt⟩⟩
  case hs =>
    intro more
    refine stepV 0 rfl rfl (fun _ _ _ h => h) ?_ ?_
    · rintro p L w1 ⟨hsz, hB, v, h_r⟩ hk
      have L7 : L 7 = false := hk.2.2 7 rfl
      first | exact valR_row _ _ rfl _ rfl _ _ v _ Try.underlying39 rfl (by first | kernel_rfl | (rw [vfn_size]; kernel_rfl)) rfl | (have hc := v.cellIs (vfn_get _ (show 0 < 3 by omega)); go_simp; exact ⟨rfl, rfl⟩)
    refine stepV 1 rfl rfl (fun _ _ _ h => h) ?_ ?_
    · intros; go_simp; exact ⟨rfl, rfl⟩
    refine stepD 2 rfl (fun p => rfl) (fun _ _ _ h => h) more ?_ ?_
    · rintro p L w1 ⟨hsz, hB, v, h_r⟩ hk
      go_simp
      refine (NR.out _).mono ?_
      rintro e w2 ⟨rfl, h2⟩
      first | exact ⟨rfl, h2⟩ | (subst h2; exact ⟨rfl, Below.refl _ _⟩)
    refine stepV 3 rfl rfl (fun _ _ _ h => h) ?_ ?_
    · intros; go_simp; exact ⟨rfl, rfl⟩
    refine stepV 4 rfl rfl (fun _ _ _ h => h) ?_ ?_
    · intros; go_simp; exact ⟨rfl, rfl⟩
    refine stepV 5 rfl rfl (fun _ _ _ h => h) ?_ ?_
    · intros; go_simp; exact ⟨rfl, rfl⟩
    refine AllI.cons ?_ ?_
    · refine stepI_alloc 6 rfl (fun p => rfl) rfl (qfn fun _ => 0) 62 (fun p => rfl) ?_ ?_
      · intro p w1
        go_simp
        first | rfl | rw [zero_quat]
      rintro p L w1 ⟨hsz, hB, v, h_r⟩ hk
      have L7 : L 7 = false := hk.2.2 7 rfl
      refine ⟨Nat.le_trans hsz (by simp), hB.alloc (Nat.le_trans (by first | exact hW0 | (have := hB.size; simp at this ⊢; omega)) hsz) _, v.alloc _, fun _ => ⟨hsz, ?_⟩⟩
      rw [show upL L 6 7 = false from L7]
      exact blk.new _ _ _
    refine AllI.cons ?_ ?_
    · refine stepI_store 7 rfl (fun p => rfl) (fun p => rfl) _ _ _ rfl (fun p => p 6) 0 (fun p => rfl) (fun p => (qfn (fun _ => 0))) (fun p => rfl) (fun p => (qfn fun _ => 0)) (fun p => (qfn (fun _ => 0))) 62 (fun p => over_qq _ _) (fun p => by first | (rw [qfn_size, qfn_size]; decide) | simp [qfn_size, qfn_size]) (fun p => by rw [qfn_size]; kernel_rfl) (fun p => qfn_one _) ?_ ?_
      · rintro p L w1 ⟨hsz, hB, v, h_r⟩ hk
        have L7 : L 7 = false := hk.1
        have hh := (h_r (hk.2.1 6 rfl)).2
        rw [L7] at hh
        try simp only [cond_true, cond_false] at hh
        exact hh
      · rintro p L w1 ⟨hsz, hB, v, h_r⟩ hk
        have L7 : L 7 = false := hk.1
        skip
        have hp := h_r (hk.2.1 6 rfl)
        refine ⟨(by simpa using hsz), Below.setRow hB (by first | exact Nat.le_trans hW0 hp.1 | exact ge_r | omega | (have := hB.size; simp at this ⊢; omega)) _, v.rowOther (by first | exact Nat.ne_of_lt (Nat.lt_of_lt_of_le lt_v hp.1) | omega) _, fun _ => ⟨hp.1, ?_⟩⟩
        rw [show upL L 7 7 = true from rfl]
        exact hp.2.row _
    refine stepV 8 rfl rfl (fun _ _ _ h => h) ?_ ?_
    · intros; go_simp; exact ⟨rfl, rfl⟩
    exact AllI.nil
  case hV0 =>
    intro p q
    refine AllI.cons ?_ ?_
    · skip
      iterate 9 (refine AllI.cons (by first | exact .inl rfl | (refine .inr ?_; simp only [List.getD_cons_zero, List.getD_cons_succ]; done) | exact .inr rfl) ?_)
      exact AllI.nil
    exact AllI.nil
  case he =>
  clear hB v
  rintro p w0rr ⟨hsz, hB, v, h_r⟩
  obtain ⟨le_r, r⟩ := h_r rfl
  clear h_r
  replace r : blk w0rr (p 6) (qfn (fun _ => 0)) 62 := r
  have ne_v_r : w.heap.size ≠ p 6 := Nat.ne_of_lt (Nat.lt_of_lt_of_le lt_v le_r)
  have ge_r : w.heap.size ≤ p 6 := Nat.le_trans hW0 le_r
  generalize p 6 = r_b at *
  clear lt_v
  clear hsz hW0
  go_wp2_with (first
    | (refine wpList_load_rowG ?hw _ _ rfl _ rfl _ _ _ _ v Try.underlying39 rfl ?hi ?_; (case hw => (first | rfl | (simp [Region.wanted, yielded]; done))); (case hi => (first | kernel_rfl | (rw [vfn_size]; kernel_rfl))))
    | (refine wpList_load_rowG ?hw _ _ rfl _ rfl _ _ _ _ r Try.underlying62 rfl ?hi ?_; (case hw => (first | rfl | (simp [Region.wanted, yielded]; done))); (case hi => (first | kernel_rfl | (rw [qfn_size]; kernel_rfl))))
    | (go_at_call 25; with_reducible refine (AW.out _).mono ?_; rintro e w9 ⟨rfl, hb⟩; replace hB := hB.trans (hb.mono hB.size); replace v := v.below hb v.lt; replace r := r.below hb r.lt; clear hb))
  go_ret
  exact ⟨rfl, hB⟩
set_option maxRecDepth 100000 in
set_option maxHeartbeats 20000000 in
theorem greads_ok (B : Nat → Int) (m : Int) (a : Option Addr) (n c : Nat) (x : Nat → Bool × (Nat → Int) × (Nat → Int)) (w : World) (hn : n ≤ 60) (hv : gyOk B m = true) (el : ElemsA w a n 7 (fun k => (mot (x k)).toList)) (hx : ∀ k, k < n → Wmot (x k)) : Calls Try.prog 6 #[.agg (vfn B), .int .i64 m, .slice a n c] w fun e w' => e = .returned (.bool true) ∧ Below w.heap.size w w' := by
  have AW := Lib.hid (fun w => awake21_any w)
  have d1 : decide ((60 : Int) < (n : Int)) = false := decide_eq_false (by omega)
  have d2 : decide (60 < n) = false := decide_eq_false (by omega)
  have GN := GI.new hv
  obtain ⟨t1, t2, t3⟩ := gy_tests hv
  have NF := Lib.hid (fun w => newG_ok B m w t1 t2 t3)
  have NR := Lib.hid (fun w => rnewG_ok B m w t1 t2 t3)
  clear hv t1 t2 t3
  replace hx := Lib.hid hx
  replace el := Lib.hid el
  go_enter Try.func6, Try.ntmps6
  go_upto_region 1 with (fail)
  have v : blk (w.alloc (.cells (vfn B) 39)) w.heap.size (vfn B) 39 := blk.new _ _ _
  have hB : Below w.heap.size w (w.alloc (.cells (vfn B) 39)) := by go_grown
  generalize (w.alloc (.cells (vfn B) 39)) = w0 at *
  go_upto_region 3 with (fail)
  have lt_v := v.lt
  have hW0 : w.heap.size ≤ w0.heap.size := by have := hB.size; first | exact this | simpa using this
  apply wp_region_Q 8 [0, 1, 3, 7, 15, 31, 63, 127] [2] [_, _, (fun p => (fun b => .tuple #[.pointer (some ⟨b, 0, none⟩), .int .i64 0]) (p 2)), _, _, _, _, _] (fun p L w' => w0.heap.size ≤ w'.heap.size ∧ Below w.heap.size w w' ∧ blk w' w.heap.size (vfn B) 39 ∧ (L 2 = true → w0.heap.size ≤ p 2 ∧ blk w' (p 2) (qfn (gyS B m)) 88)) _ [(0, 21), (1, 22), (2, 23), (3, 20), (4, 24), (5, 25), (6, 7), (7, 8)] [0, 1, 2, 3, 4, 5, 6, 7]
  case hn => rfl
  case hB => kernel_rfl
  case hds => kernel_rfl
  case hA => (intro p; simp only [putsD, Act.put, List.setIfInBounds_toArray, List.set_cons_zero, List.set_cons_succ, List.getD_cons_zero, List.getD_cons_succ]; exact rfl)
  case h0 => exact fun p => ⟨Nat.le_refl _, hB, v, fun h => absurd h (by decide)⟩
  case hmore => exact fun p L w1 w2 ⟨hsz, hB, v, h_g⟩ hm => ⟨Nat.le_trans hsz hm.size, hB.trans (hm.mono (Nat.le_trans hW0 hsz)), v.below hm v.lt, fun hl => ⟨(h_g hl).1, (h_g hl).2.below hm (h_g hl).2.lt⟩⟩
  case hs =>
    intro more
    refine stepV 0 rfl rfl (fun _ _ _ h => h) ?_ ?_
    · rintro p L w1 ⟨hsz, hB, v, h_g⟩ hk
      first | exact valR_row _ _ rfl _ rfl _ _ v _ Try.underlying39 rfl (by first | kernel_rfl | (rw [vfn_size]; kernel_rfl)) rfl | (have hc := v.cellIs (vfn_get _ (show 0 < 3 by omega)); go_simp; exact ⟨rfl, rfl⟩)
    refine stepV 1 rfl rfl (fun _ _ _ h => h) ?_ ?_
    · intros; go_simp; exact ⟨rfl, rfl⟩
    refine AllI.cons ?_ ?_
    · refine stepI_new 2 rfl (fun p => rfl) rfl (fun b => .tuple #[.pointer (some ⟨b, 0, none⟩), .int .i64 0]) (qfn (gyS B m)) 88 (fun p => rfl) ?_ ?_
      · rintro p L w1 ⟨hsz, hB, v, h_g⟩ hk
        go_simp
        refine (NF.out _).mono ?_
        rintro e w2 ⟨b, rfl, hb, hle, hm⟩
        exact ⟨_, rfl, b, rfl, hb, hle, hm⟩
      rintro p L w1 w2 b ⟨hsz, hB, v, h_g⟩ hk hb hle hm
      refine ⟨Nat.le_trans hsz hm.size, hB.trans (hm.mono (Nat.le_trans hW0 hsz)), v.below hm v.lt, fun _ => ⟨Nat.le_trans hsz hle, ?_⟩⟩
      exact hb
    refine stepV 3 rfl rfl (fun _ _ _ h => h) ?_ ?_
    · intros; go_simp; exact ⟨rfl, rfl⟩
    refine stepV 4 rfl rfl (fun _ _ _ h => h) ?_ ?_
    · intros; go_simp; exact ⟨rfl, rfl⟩
    refine stepV 5 rfl rfl (fun _ _ _ h => h) ?_ ?_
    · intros; go_simp; exact ⟨rfl, rfl⟩
    refine stepV 6 rfl rfl (fun _ _ _ h => h) ?_ ?_
    · intros; go_simp; exact ⟨rfl, rfl⟩
    refine stepV 7 rfl rfl (fun _ _ _ h => h) ?_ ?_
    · intros; go_simp; exact ⟨rfl, rfl⟩
    exact AllI.nil
  case hV0 =>
    intro p q
    refine AllI.cons ?_ ?_
    · skip
      iterate 8 (refine AllI.cons (by first | exact .inl rfl | (refine .inr ?_; simp only [List.getD_cons_zero, List.getD_cons_succ]; done) | exact .inr rfl) ?_)
      exact AllI.nil
    exact AllI.nil
  case he =>
  clear hB v
  rintro p w0r ⟨hsz, hB, v, h_g⟩
  obtain ⟨le_g, g⟩ := h_g rfl
  clear h_g
  replace g : blk w0r (p 2) (qfn (gyS B m)) 88 := g
  have ne_v_g : w.heap.size ≠ p 2 := Nat.ne_of_lt (Nat.lt_of_lt_of_le lt_v le_g)
  have ge_g : w.heap.size ≤ p 2 := Nat.le_trans hW0 le_g
  generalize p 2 = g_b at *
  clear lt_v
  clear hsz hW0
  go_upto_region 4 with (fail)
  have lt_v := v.lt
  have lt_g := g.lt
  have hW0 : w.heap.size ≤ w0r.heap.size := by have := hB.size; first | exact this | simpa using this
  apply wp_region_Q 9 [0, 1, 3, 7, 15, 31, 63, 127, 255] [6] [_, _, _, _, _, _, (fun p => .pointer (some ⟨p 6, 0, none⟩)), (fun _ => undef), _] (fun p L w' => w0r.heap.size ≤ w'.heap.size ∧ Below w.heap.size w w' ∧ blk w' w.heap.size (vfn B) 39 ∧ blk w' g_b (qfn (gyS B m)) 88 ∧ (L 6 = true → w0r.heap.size ≤ p 6 ∧ blk w' (p 6) (bif L 7 then (qfn (gyS B m)) else (qfn fun _ => 0)) 62)) _ [(0, 27), (1, 28), (2, 29), (3, 26), (4, 30), (5, 31), (6, 9), (8, 10)] [0, 1, 2, 3, 4, 5, 6, 7, 8]
  case hn => rfl
  case hB => kernel_rfl
  case hds => kernel_rfl
  case hA => (intro p; simp only [putsD, Act.put, List.setIfInBounds_toArray, List.set_cons_zero, List.set_cons_succ, List.getD_cons_zero, List.getD_cons_succ]; exact rfl)
  case h0 => exact fun p => ⟨Nat.le_refl _, hB, v, g, fun h => absurd h (by decide)⟩
  case hmore => exact fun p L w1 w2 ⟨hsz, hB, v, g, h_r⟩ hm => ⟨Nat.le_trans hsz hm.size, hB.trans (hm.mono (Nat.le_trans hW0 hsz)), v.below hm v.lt, g.below hm g.lt, fun hl => ⟨(h_r hl).1, (h_r hl).2.below hm (h_r hl).2.lt⟩⟩
  case hs =>
    intro more
    refine stepV 0 rfl rfl (fun _ _ _ h => h) ?_ ?_
    · rintro p L w1 ⟨hsz, hB, v, g, h_r⟩ hk
      have L7 : L 7 = false := hk.2.2 7 rfl
      first | exact valR_row _ _ rfl _ rfl _ _ v _ Try.underlying39 rfl (by first | kernel_rfl | (rw [vfn_size]; kernel_rfl)) rfl | (have hc := v.cellIs (vfn_get _ (show 0 < 3 by omega)); go_simp; exact ⟨rfl, rfl⟩)
    refine stepV 1 rfl rfl (fun _ _ _ h => h) ?_ ?_
    · intros; go_simp; exact ⟨rfl, rfl⟩
    refine stepD 2 rfl (fun p => rfl) (fun _ _ _ h => h) more ?_ ?_
    · rintro p L w1 ⟨hsz, hB, v, g, h_r⟩ hk
      go_simp
      refine (NR.out _).mono ?_
      rintro e w2 ⟨rfl, h2⟩
      first | exact ⟨rfl, h2⟩ | (subst h2; exact ⟨rfl, Below.refl _ _⟩)
    refine stepV 3 rfl rfl (fun _ _ _ h => h) ?_ ?_
    · intros; go_simp; exact ⟨rfl, rfl⟩
    refine stepV 4 rfl rfl (fun _ _ _ h => h) ?_ ?_
    · intros; go_simp; exact ⟨rfl, rfl⟩
    refine stepV 5 rfl rfl (fun _ _ _ h => h) ?_ ?_
    · intros; go_simp; exact ⟨rfl, rfl⟩
    refine AllI.cons ?_ ?_
    · refine stepI_alloc 6 rfl (fun p => rfl) rfl (qfn fun _ => 0) 62 (fun p => rfl) ?_ ?_
      · intro p w1
        go_simp
        first | rfl | rw [zero_quat]
      rintro p L w1 ⟨hsz, hB, v, g, h_r⟩ hk
      have L7 : L 7 = false := hk.2.2 7 rfl
      refine ⟨Nat.le_trans hsz (by simp), hB.alloc (Nat.le_trans (by first | exact hW0 | (have := hB.size; simp at this ⊢; omega)) hsz) _, v.alloc _, g.alloc _, fun _ => ⟨hsz, ?_⟩⟩
      rw [show upL L 6 7 = false from L7]
      exact blk.new _ _ _
    refine AllI.cons ?_ ?_
    · refine stepI_store 7 rfl (fun p => rfl) (fun p => rfl) _ _ _ rfl (fun p => p 6) 0 (fun p => rfl) (fun p => (qfn (gyS B m))) (fun p => rfl) (fun p => (qfn fun _ => 0)) (fun p => (qfn (gyS B m))) 62 (fun p => over_qq _ _) (fun p => by first | (rw [qfn_size, qfn_size]; decide) | simp [qfn_size, qfn_size]) (fun p => by rw [qfn_size]; kernel_rfl) (fun p => qfn_one _) ?_ ?_
      · rintro p L w1 ⟨hsz, hB, v, g, h_r⟩ hk
        have L7 : L 7 = false := hk.1
        have hh := (h_r (hk.2.1 6 rfl)).2
        rw [L7] at hh
        try simp only [cond_true, cond_false] at hh
        exact hh
      · rintro p L w1 ⟨hsz, hB, v, g, h_r⟩ hk
        have L7 : L 7 = false := hk.1
        skip
        have hp := h_r (hk.2.1 6 rfl)
        refine ⟨(by simpa using hsz), Below.setRow hB (by first | exact Nat.le_trans hW0 hp.1 | exact ge_r | omega | (have := hB.size; simp at this ⊢; omega)) _, v.rowOther (by first | exact Nat.ne_of_lt (Nat.lt_of_lt_of_le lt_v hp.1) | omega) _, g.rowOther (by first | exact Nat.ne_of_lt (Nat.lt_of_lt_of_le lt_g hp.1) | omega) _, fun _ => ⟨hp.1, ?_⟩⟩
        rw [show upL L 7 7 = true from rfl]
        exact hp.2.row _
    refine stepV 8 rfl rfl (fun _ _ _ h => h) ?_ ?_
    · intros; go_simp; exact ⟨rfl, rfl⟩
    exact AllI.nil
  case hV0 =>
    intro p q
    refine AllI.cons ?_ ?_
    · skip
      iterate 9 (refine AllI.cons (by first | exact .inl rfl | (refine .inr ?_; simp only [List.getD_cons_zero, List.getD_cons_succ]; done) | exact .inr rfl) ?_)
      exact AllI.nil
    exact AllI.nil
  case he =>
  clear hB v g
  rintro p w0rr ⟨hsz, hB, v, g, h_r⟩
  obtain ⟨le_r, r⟩ := h_r rfl
  clear h_r
  replace r : blk w0rr (p 6) (qfn (gyS B m)) 62 := r
  have ne_v_r : w.heap.size ≠ p 6 := Nat.ne_of_lt (Nat.lt_of_lt_of_le lt_v le_r)
  have ne_g_r : g_b ≠ p 6 := Nat.ne_of_lt (Nat.lt_of_lt_of_le lt_g le_r)
  have ge_r : w.heap.size ≤ p 6 := Nat.le_trans hW0 le_r
  generalize p 6 = r_b at *
  clear lt_v
  clear lt_g
  clear hsz hW0
  go_wp2_with (fail)
  go_loopg [11] n (fun g_ iv wr => ∃ K : Nat, ∃ G : Nat → Int, g_ + K = n ∧ iv = .int .i64 K ∧ GI G ∧ blk wr w.heap.size (vfn B) 39 ∧ blk wr g_b (qfn G) 88 ∧ blk wr r_b (qfn G) 62 ∧ Below w.heap.size w wr)
  case atStart => exact ⟨0, gyS B m, by omega, rfl, GN, v, g, r, hB⟩
  case round =>
    clear GN v g r hB NF NR
    obtain ⟨K, G, hK, rfl, FQ, v, g, r, hB⟩ := hrel
    by_cases hKn : K < n
    · have hdK : decide ((K : Int) < n) = true := decide_eq_true (by omega)
      have hdK' : decide (K < n) = true := decide_eq_true hKn
      have hk3 : (K : Int) < n := by omega
      have hk0 : (0 : Int) ≤ K := by omega
      have hwK : IntKind.i64.wrap ((K : Int) + 1) = ((K + 1 : Nat) : Int) := by rw [IntKind.wrap_i64]; omega
      obtain ⟨eb, eo, rfl, hEl, hE⟩ := el.out K hKn
      replace hE : w.rangeAt eb (eo + K * 7) ((mot (x K)).toList) := hE
      obtain ⟨S, hS⟩ : ∃ S, (x K).1 = S := ⟨_, rfl⟩
      have DR := Lib.hid (fun w (hg : blk w g_b (qfn G) 88) => gdrift_any G (x K).2.1 g_b w hg FQ)
      have RR := Lib.hid (fun w => rgdrift_any G (x K).2.1 w FQ)
      have RD := Lib.hid (fun w (hg : blk w g_b (qfn G) 88) => gread_any G (x K).2.1 (x K).2.2 g_b w hg FQ)
      have RS := Lib.hid (fun w => rgread_any G (x K).2.1 (x K).2.2 w FQ)
      have FD := FQ.dr (x K).2.1
      go_upto_region 12 with (fail)
      have lt_v := v.lt
      have lt_g := g.lt
      have lt_r := r.lt
      have hW0 : w.heap.size ≤ wr.heap.size := by have := hB.size; first | exact this | simpa using this
      apply wp_region_Q 5 [0, 1, 3, 7, 15] [] [_, _, _, _, _] (fun p L w' => wr.heap.size ≤ w'.heap.size ∧ Below w.heap.size w w' ∧ blk w' w.heap.size (vfn B) 39 ∧ blk w' g_b (qfn G) 88 ∧ blk w' r_b (qfn G) 62) _ [(0, 51), (1, 52), (2, 53), (3, 54), (4, 55)] [0, 1, 2, 3, 4]
      case hn => rfl
      case hB => kernel_rfl
      case hds => kernel_rfl
      case hA => (intro p; simp only [putsD, Act.put, List.setIfInBounds_toArray, List.set_cons_zero, List.set_cons_succ, List.getD_cons_zero, List.getD_cons_succ]; exact rfl)
      case h0 => exact fun p => ⟨Nat.le_refl _, hB, v, g, r⟩
      case hmore => exact fun p L w1 w2 ⟨hsz, hB, v, g, r⟩ hm => ⟨Nat.le_trans hsz hm.size, hB.trans (hm.mono (Nat.le_trans hW0 hsz)), v.below hm v.lt, g.below hm g.lt, r.below hm r.lt⟩
      case hs =>
        intro more
        refine stepV 0 rfl rfl (fun _ _ _ h => h) ?_ ?_
        · intros; go_simp; exact ⟨rfl, rfl⟩
        refine stepV 1 rfl rfl (fun _ _ _ h => h) ?_ ?_
        · intros; go_simp; exact ⟨rfl, rfl⟩
        refine stepV 2 rfl rfl (fun _ _ _ h => h) ?_ ?_
        · intros; go_simp; exact ⟨rfl, rfl⟩
        refine stepV 3 rfl rfl (fun _ _ _ h => h) ?_ ?_
        · intros; go_simp; exact ⟨rfl, rfl⟩
        refine stepV 4 rfl rfl (fun _ _ _ h => h) ?_ ?_
        · rintro p L w1 ⟨hsz, hB, v, g, r⟩ hk
          have hr := range_below hE hB hEl
          have hc : w1.cell? ⟨eb, eo + K * 7, none⟩ = some (.bool (x K).1) := hr 0 _ rfl
          go_simp
          exact ⟨rfl, rfl⟩
        exact AllI.nil
      case hV0 => exact fun p q => AllI.nil
      case he =>
      clear hB v g r
      rintro p wrr ⟨hsz, hB, v, g, r⟩
      clear lt_v
      clear lt_g
      clear lt_r
      clear hsz hW0
      try rw [hS]
      cases S with
      | true =>
        go_upto_region 13 with (fail)
        have lt_v := v.lt
        have lt_g := g.lt
        have lt_r := r.lt
        have hW0 : w.heap.size ≤ wrr.heap.size := by have := hB.size; first | exact this | simpa using this
        apply wp_region_Q 8 [0, 1, 3, 7, 15, 31, 63, 127] [] [_, _, _, _, _, _, _, _] (fun p L w' => wrr.heap.size ≤ w'.heap.size ∧ Below w.heap.size w w' ∧ blk w' w.heap.size (vfn B) 39 ∧ blk w' g_b (bif L 6 then (qfn (drQ G (x K).2.1)) else (qfn G)) 88 ∧ blk w' r_b (qfn G) 62) _ [(0, 56), (1, 57), (2, 58), (3, 59), (4, 60), (5, 61), (6, 62), (7, 8)] [0, 1, 2, 3, 4, 5, 6, 7]
        case hn => rfl
        case hB => kernel_rfl
        case hds => kernel_rfl
        case hA => (intro p; simp only [putsD, Act.put, List.setIfInBounds_toArray, List.set_cons_zero, List.set_cons_succ, List.getD_cons_zero, List.getD_cons_succ]; exact rfl)
        case h0 => exact fun p => ⟨Nat.le_refl _, hB, v, g, r⟩
        case hmore => exact fun p L w1 w2 ⟨hsz, hB, v, g, r⟩ hm => ⟨Nat.le_trans hsz hm.size, hB.trans (hm.mono (Nat.le_trans hW0 hsz)), v.below hm v.lt, g.below hm g.lt, r.below hm r.lt⟩
        case hs =>
          intro more
          refine stepV 0 rfl rfl (fun _ _ _ h => h) ?_ ?_
          · intros; go_simp; exact ⟨rfl, rfl⟩
          refine stepV 1 rfl rfl (fun _ _ _ h => h) ?_ ?_
          · intros; go_simp; exact ⟨rfl, rfl⟩
          refine stepV 2 rfl rfl (fun _ _ _ h => h) ?_ ?_
          · intros; go_simp; exact ⟨rfl, rfl⟩
          refine stepV 3 rfl rfl (fun _ _ _ h => h) ?_ ?_
          · intros; go_simp; exact ⟨rfl, rfl⟩
          refine stepV 4 rfl rfl (fun _ _ _ h => h) ?_ ?_
          · intros; go_simp; exact ⟨rfl, rfl⟩
          refine stepV 5 rfl rfl (fun _ _ _ h => h) ?_ ?_
          · rintro p L w1 ⟨hsz, hB, v, g, r⟩ hk
            have hr := range_below hE hB hEl
            exact valR_range _ _ rfl _ _ rfl _ (eo + K * 7) 1 hr (by first | rfl | omega) (vfn (x K).2.1) (mot_aL (x K)) _ Try.underlying39 rfl (by rw [vfn_size]; kernel_rfl) rfl
          refine AllI.cons ?_ ?_
          · refine stepI_mut 6 rfl (fun p => rfl) (fun _ => g_b) (fun p => (qfn (drQ G (x K).2.1))) ?_ ?_
            · rintro p L w1 ⟨hsz, hB, v, g, r⟩ hk
              have L6 : L 6 = false := hk.1
              rw [L6] at g
              try simp only [cond_true, cond_false] at g
              go_simp
              refine (DR.out _ g).mono ?_
              rintro e w2 ⟨rfl, h2⟩
              exact ⟨rfl, h2⟩
            · rintro p L w1 w2 ⟨hsz, hB, v, g, r⟩ hk hm
              have L6 : L 6 = false := hk.1
              refine ⟨Nat.le_trans hsz (by have := hm.size; simpa using this), (Below.setRow hB (by first | exact Nat.le_trans hW0 hp.1 | exact ge_g | omega | (have := hB.size; simp at this ⊢; omega)) _).trans (hm.mono (Nat.le_trans hW0 hsz)), (v.rowOther (by first | exact ne_v_g | exact Ne.symm ne_g_v | omega) _).below hm (by simpa using v.lt), ?_, (r.rowOther (by first | exact ne_r_g | exact Ne.symm ne_g_r | omega) _).below hm (by simpa using r.lt)⟩
              rw [show upL L 6 6 = true from rfl]
              exact (g.row _).below hm (by simpa using g.lt)
          refine stepV 7 rfl rfl (fun _ _ _ h => h) ?_ ?_
          · intros; go_simp; exact ⟨rfl, rfl⟩
          exact AllI.nil
        case hV0 => exact fun p q => AllI.nil
        case he =>
        clear hB v g r
        rintro p wrrr ⟨hsz, hB, v, g, r⟩
        replace g : blk wrrr g_b (qfn (drQ G (x K).2.1)) 88 := g
        clear lt_v
        clear lt_g
        clear lt_r
        clear hsz hW0
        go_upto_region 14 with (fail)
        have lt_v := v.lt
        have lt_g := g.lt
        have lt_r := r.lt
        have hW0 : w.heap.size ≤ wrrr.heap.size := by have := hB.size; first | exact this | simpa using this
        apply wp_region_I 12 [0, 0, 0, 6, 14, 30, 63, 127, 255, 255, 511, 2047] [] [_, _, _, _, _, _, _, _, _, _, (fun _ => undef), _] (fun p L w' => wrrr.heap.size ≤ w'.heap.size ∧ Below w.heap.size w w' ∧ blk w' w.heap.size (vfn B) 39 ∧ blk w' g_b (qfn (drQ G (x K).2.1)) 88 ∧ blk w' r_b (bif L 10 then (qfn (drQ G (x K).2.1)) else (qfn G)) 62) _ [(0, 64), (1, 65), (2, 66), (3, 67), (4, 68), (5, 69), (6, 70), (7, 63), (8, 71), (9, 72), (11, 10)] [0, 1, 2, 3, 4, 5, 6, 7, 8, 9, 10, 11]
        case hn => rfl
        case hm => kernel_rfl
        case hB => kernel_rfl
        case hds => kernel_rfl
        case hA => (intro p; simp only [putsD, Act.put, List.setIfInBounds_toArray, List.set_cons_zero, List.set_cons_succ, List.getD_cons_zero, List.getD_cons_succ]; exact rfl)
        case h0 => exact fun p => ⟨Nat.le_refl _, hB.drew, v.drew, g.drew, r.drew⟩
        case hmore => exact fun p L w1 w2 ⟨hsz, hB, v, g, r⟩ hm => ⟨Nat.le_trans hsz hm.size, hB.trans (hm.mono (Nat.le_trans hW0 hsz)), v.below hm v.lt, g.below hm g.lt, r.below hm r.lt⟩
        case hs =>
          intro more
          refine stepV 0 rfl rfl (fun _ _ _ h => h) ?_ ?_
          · rintro p L w1 ⟨hsz, hB, v, g, r⟩ hk
            have L10 : L 10 = false := hk.2.2 10 rfl
            rw [L10] at r
            try simp only [cond_true, cond_false] at r
            first | exact valR_row _ _ rfl _ rfl _ _ r _ Try.underlying62 rfl (by first | kernel_rfl | (rw [qfn_size]; kernel_rfl)) rfl | (have hc := r.cellIs (qfn_get _ (show 0 < 4 by omega)); go_simp; exact ⟨rfl, rfl⟩)
          refine stepV 1 rfl rfl (fun _ _ _ h => h) ?_ ?_
          · intros; go_simp; exact ⟨rfl, rfl⟩
          refine stepV 2 rfl rfl (fun _ _ _ h => h) ?_ ?_
          · intros; go_simp; exact ⟨rfl, rfl⟩
          refine stepV 3 rfl rfl (fun _ _ _ h => h) ?_ ?_
          · intros; go_simp; exact ⟨rfl, rfl⟩
          refine stepV 4 rfl rfl (fun _ _ _ h => h) ?_ ?_
          · intros; go_simp; exact ⟨rfl, rfl⟩
          refine stepV 5 rfl rfl (fun _ _ _ h => h) ?_ ?_
          · rintro p L w1 ⟨hsz, hB, v, g, r⟩ hk
            have hr := range_below hE hB hEl
            exact valR_range _ _ rfl _ _ rfl _ (eo + K * 7) 1 hr (by first | rfl | omega) (vfn (x K).2.1) (mot_aL (x K)) _ Try.underlying39 rfl (by rw [vfn_size]; kernel_rfl) rfl
          refine stepD 6 rfl (fun p => rfl) (fun _ _ _ h => h) more ?_ ?_
          · rintro p L w1 ⟨hsz, hB, v, g, r⟩ hk
            go_simp
            refine (RR.out _).mono ?_
            rintro e w2 ⟨rfl, h2⟩
            first | exact ⟨rfl, h2⟩ | (subst h2; exact ⟨rfl, Below.refl _ _⟩)
          refine stepV 7 rfl rfl (fun _ _ _ h => h) ?_ ?_
          · intros; go_simp; exact ⟨rfl, rfl⟩
          refine stepV 8 rfl rfl (fun _ _ _ h => h) ?_ ?_
          · intros; go_simp; exact ⟨rfl, rfl⟩
          refine stepV 9 rfl rfl (fun _ _ _ h => h) ?_ ?_
          · intros; go_simp; exact ⟨rfl, rfl⟩
          refine AllI.cons ?_ ?_
          · refine stepI_store 10 rfl (fun p => rfl) (fun p => rfl) _ _ _ rfl (fun _ => r_b) 0 (fun p => rfl) (fun p => (qfn (drQ G (x K).2.1))) (fun p => rfl) (fun p => (qfn G)) (fun p => (qfn (drQ G (x K).2.1))) 62 (fun p => over_qq _ _) (fun p => by first | (rw [qfn_size, qfn_size]; decide) | simp [qfn_size, qfn_size]) (fun p => by rw [qfn_size]; kernel_rfl) (fun p => qfn_one _) ?_ ?_
            · rintro p L w1 ⟨hsz, hB, v, g, r⟩ hk
              have L10 : L 10 = false := hk.1
              rw [L10] at r
              try simp only [cond_true, cond_false] at r
              exact r
            · rintro p L w1 ⟨hsz, hB, v, g, r⟩ hk
              have L10 : L 10 = false := hk.1
              skip
              refine ⟨(by simpa using hsz), Below.setRow hB (by first | exact Nat.le_trans hW0 hp.1 | exact ge_r | omega | (have := hB.size; simp at this ⊢; omega)) _, v.rowOther (by first | exact ne_v_r | exact Ne.symm ne_r_v | omega) _, g.rowOther (by first | exact ne_g_r | exact Ne.symm ne_r_g | omega) _, ?_⟩
              rw [show upL L 10 10 = true from rfl]
              exact r.row _
          refine stepV 11 rfl rfl (fun _ _ _ h => h) ?_ ?_
          · intros; go_simp; exact ⟨rfl, rfl⟩
          exact AllI.nil
        case hV0 => exact fun p q => AllI.nil
        case he =>
        clear hB v g r
        rintro p wrrrr ⟨hsz, hB, v, g, r⟩
        replace r : blk wrrrr r_b (qfn (drQ G (x K).2.1)) 62 := r
        clear lt_v
        clear lt_g
        clear lt_r
        clear hsz hW0
        clear DR RR RD RS FQ hE
        generalize drQ G (x K).2.1 = G2 at *
        have h3 : G2 3 ≠ 0 := by have := FD.2; omega
        have BI := Lib.hid (fun w (hg : blk w g_b (qfn G2) 88) => gbias_any G2 g_b w hg h3)
        clear h3
        go_upto_region 21 with (fail)
        have E2 := vec_eq_self G2
        have lt_v := v.lt
        have lt_g := g.lt
        have lt_r := r.lt
        have hW0 : w.heap.size ≤ wrrrr.heap.size := by have := hB.size; first | exact this | simpa using this
        apply wp_region_I 5 [0, 1, 0, 4, 15] [] [_, _, _, _, _] (fun p L w' => wrrrr.heap.size ≤ w'.heap.size ∧ Below w.heap.size w w' ∧ blk w' w.heap.size (vfn B) 39 ∧ blk w' g_b (qfn G2) 88 ∧ blk w' r_b (qfn G2) 62) _ [(0, 114), (1, 115), (2, 116), (3, 117), (4, 118)] [0, 1, 2, 3, 4]
        case hn => rfl
        case hm => kernel_rfl
        case hB => kernel_rfl
        case hds => kernel_rfl
        case hA => (intro p; simp only [putsD, Act.put, List.setIfInBounds_toArray, List.set_cons_zero, List.set_cons_succ, List.getD_cons_zero, List.getD_cons_succ]; exact rfl)
        case h0 => exact fun p => ⟨Nat.le_refl _, hB.drew, v.drew, g.drew, r.drew⟩
        case hmore => exact fun p L w1 w2 ⟨hsz, hB, v, g, r⟩ hm => ⟨Nat.le_trans hsz hm.size, hB.trans (hm.mono (Nat.le_trans hW0 hsz)), v.below hm v.lt, g.below hm g.lt, r.below hm r.lt⟩
        case hs =>
          intro more
          refine stepV 0 rfl rfl (fun _ _ _ h => h) ?_ ?_
          · intros; go_simp; exact ⟨rfl, rfl⟩
          refine stepD 1 rfl (fun p => rfl) (fun _ _ _ h => h) more ?_ ?_
          · rintro p L w1 ⟨hsz, hB, v, g, r⟩ hk
            go_simp
            refine (BI.out _ g).mono ?_
            rintro e w2 ⟨rfl, h2⟩
            first | exact ⟨rfl, h2⟩ | (subst h2; exact ⟨rfl, Below.refl _ _⟩)
          refine stepV 2 rfl rfl (fun _ _ _ h => h) ?_ ?_
          · intros; go_simp; exact ⟨rfl, rfl⟩
          refine stepV 3 rfl rfl (fun _ _ _ h => h) ?_ ?_
          · rintro p L w1 ⟨hsz, hB, v, g, r⟩ hk
            exact valR_part _ _ rfl _ 0 rfl _ _ r (vfn G2) (part_q G2) _ Try.underlying39 rfl (by rw [vfn_size]; kernel_rfl) rfl
          refine stepV 4 rfl rfl (fun _ _ _ h => h) ?_ ?_
          · intros; go_simp; exact ⟨rfl, rfl⟩
          exact AllI.nil
        case hV0 => exact fun p q => AllI.nil
        case he =>
        clear hB v g r
        rintro p wrrrrr ⟨hsz, hB, v, g, r⟩
        clear lt_v
        clear lt_g
        clear lt_r
        clear hsz hW0
        clear E2 BI
        go_wp2_with (fail)
        go_roundg (n - (K + 1))
        case rel => exact ⟨K + 1, G2, by omega, rfl, FD, v, g, r, hB⟩
        case measure => omega
      | false =>
        go_upto_region 17 with (fail)
        have lt_v := v.lt
        have lt_g := g.lt
        have lt_r := r.lt
        have hW0 : w.heap.size ≤ wrr.heap.size := by have := hB.size; first | exact this | simpa using this
        apply wp_region_I 18 [0, 0, 0, 6, 14, 30, 0, 0, 192, 448, 960, 2047, 4095, 8191, 8191, 0, 49151, 131071] [15] [_, _, _, _, _, _, _, _, _, _, _, _, _, _, _, (fun p => .pointer (some ⟨p 15, 0, none⟩)), (fun _ => undef), _] (fun p L w' => wrr.heap.size ≤ w'.heap.size ∧ Below w.heap.size w w' ∧ blk w' w.heap.size (vfn B) 39 ∧ blk w' g_b (qfn G) 88 ∧ blk w' r_b (qfn G) 62 ∧ (L 15 = true → wrr.heap.size ≤ p 15 ∧ blk w' (p 15) (bif L 16 then (vfn (rdF G (x K).2.1 (x K).2.2)) else (vfn fun _ => 0)) 39)) _ [(0, 77), (1, 78), (2, 79), (3, 80), (4, 81), (5, 82), (6, 83), (7, 84), (8, 85), (9, 86), (10, 87), (11, 88), (12, 76), (13, 89), (14, 90), (15, 12), (17, 13)] [0, 1, 2, 3, 4, 5, 6, 7, 8, 9, 10, 11, 12, 13, 14, 15, 16, 17]
        case hn => rfl
        case hm => kernel_rfl
        case hB => kernel_rfl
        case hds => kernel_rfl
        case hA => (intro p; simp only [putsD, Act.put, List.setIfInBounds_toArray, List.set_cons_zero, List.set_cons_succ, List.getD_cons_zero, List.getD_cons_succ]; exact rfl)
        case h0 => exact fun p => ⟨Nat.le_refl _, hB.drew, v.drew, g.drew, r.drew, fun h => absurd h (by decide)⟩
        case hmore => exact fun p L w1 w2 ⟨hsz, hB, v, g, r, h_d⟩ hm => ⟨Nat.le_trans hsz hm.size, hB.trans (hm.mono (Nat.le_trans hW0 hsz)), v.below hm v.lt, g.below hm g.lt, r.below hm r.lt, fun hl => ⟨(h_d hl).1, (h_d hl).2.below hm (h_d hl).2.lt⟩⟩
        case hs =>
          intro more
          refine stepV 0 rfl rfl (fun _ _ _ h => h) ?_ ?_
          · intros; go_simp; exact ⟨rfl, rfl⟩
          refine stepV 1 rfl rfl (fun _ _ _ h => h) ?_ ?_
          · intros; go_simp; exact ⟨rfl, rfl⟩
          refine stepV 2 rfl rfl (fun _ _ _ h => h) ?_ ?_
          · intros; go_simp; exact ⟨rfl, rfl⟩
          refine stepV 3 rfl rfl (fun _ _ _ h => h) ?_ ?_
          · intros; go_simp; exact ⟨rfl, rfl⟩
          refine stepV 4 rfl rfl (fun _ _ _ h => h) ?_ ?_
          · intros; go_simp; exact ⟨rfl, rfl⟩
          refine stepV 5 rfl rfl (fun _ _ _ h => h) ?_ ?_
          · rintro p L w1 ⟨hsz, hB, v, g, r, h_d⟩ hk
            have hr := range_below hE hB hEl
            exact valR_range _ _ rfl _ _ rfl _ (eo + K * 7) 1 hr (by first | rfl | omega) (vfn (x K).2.1) (mot_aL (x K)) _ Try.underlying39 rfl (by rw [vfn_size]; kernel_rfl) rfl
          refine stepV 6 rfl rfl (fun _ _ _ h => h) ?_ ?_
          · intros; go_simp; exact ⟨rfl, rfl⟩
          refine stepV 7 rfl rfl (fun _ _ _ h => h) ?_ ?_
          · intros; go_simp; exact ⟨rfl, rfl⟩
          refine stepV 8 rfl rfl (fun _ _ _ h => h) ?_ ?_
          · intros; go_simp; exact ⟨rfl, rfl⟩
          refine stepV 9 rfl rfl (fun _ _ _ h => h) ?_ ?_
          · intros; go_simp; exact ⟨rfl, rfl⟩
          refine stepV 10 rfl rfl (fun _ _ _ h => h) ?_ ?_
          · rintro p L w1 ⟨hsz, hB, v, g, r, h_d⟩ hk
            have hr := range_below hE hB hEl
            exact valR_range _ _ rfl _ _ rfl _ (eo + K * 7) 4 hr (by first | rfl | omega) (vfn (x K).2.2) (mot_bL (x K)) _ Try.underlying39 rfl (by rw [vfn_size]; kernel_rfl) rfl
          refine stepD 11 rfl (fun p => rfl) (fun _ _ _ h => h) more ?_ ?_
          · rintro p L w1 ⟨hsz, hB, v, g, r, h_d⟩ hk
            have L16 : L 16 = false := hk.2.2 16 rfl
            go_simp
            refine (RD.out _ g).mono ?_
            rintro e w2 ⟨rfl, h2⟩
            first | exact ⟨rfl, h2⟩ | (subst h2; exact ⟨rfl, Below.refl _ _⟩)
          refine stepV 12 rfl rfl (fun _ _ _ h => h) ?_ ?_
          · intros; go_simp; exact ⟨rfl, rfl⟩
          refine stepV 13 rfl rfl (fun _ _ _ h => h) ?_ ?_
          · intros; go_simp; exact ⟨rfl, rfl⟩
          refine stepV 14 rfl rfl (fun _ _ _ h => h) ?_ ?_
          · intros; go_simp; exact ⟨rfl, rfl⟩
          refine AllI.cons ?_ ?_
          · refine stepI_alloc 15 rfl (fun p => rfl) rfl (vfn fun _ => 0) 39 (fun p => rfl) ?_ ?_
            · intro p w1
              go_simp
              first | rfl | rw [zero_vec]
            rintro p L w1 ⟨hsz, hB, v, g, r, h_d⟩ hk
            have L16 : L 16 = false := hk.2.2 16 rfl
            refine ⟨Nat.le_trans hsz (by simp), hB.alloc (Nat.le_trans (by first | exact hW0 | (have := hB.size; simp at this ⊢; omega)) hsz) _, v.alloc _, g.alloc _, r.alloc _, fun _ => ⟨hsz, ?_⟩⟩
            rw [show upL L 15 16 = false from L16]
            exact blk.new _ _ _
          refine AllI.cons ?_ ?_
          · refine stepI_store 16 rfl (fun p => rfl) (fun p => rfl) _ _ _ rfl (fun p => p 15) 0 (fun p => rfl) (fun p => (vfn (rdF G (x K).2.1 (x K).2.2))) (fun p => rfl) (fun p => (vfn fun _ => 0)) (fun p => (vfn (rdF G (x K).2.1 (x K).2.2))) 39 (fun p => over_v _ _) (fun p => by first | (rw [vfn_size, vfn_size]; decide) | simp [vfn_size, vfn_size]) (fun p => by rw [vfn_size]; kernel_rfl) (fun p => vfn_one _) ?_ ?_
            · rintro p L w1 ⟨hsz, hB, v, g, r, h_d⟩ hk
              have L16 : L 16 = false := hk.1
              have hh := (h_d (hk.2.1 15 rfl)).2
              rw [L16] at hh
              try simp only [cond_true, cond_false] at hh
              exact hh
            · rintro p L w1 ⟨hsz, hB, v, g, r, h_d⟩ hk
              have L16 : L 16 = false := hk.1
              skip
              have hp := h_d (hk.2.1 15 rfl)
              refine ⟨(by simpa using hsz), Below.setRow hB (by first | exact Nat.le_trans hW0 hp.1 | exact ge_d | omega | (have := hB.size; simp at this ⊢; omega)) _, v.rowOther (by first | exact Nat.ne_of_lt (Nat.lt_of_lt_of_le lt_v hp.1) | omega) _, g.rowOther (by first | exact Nat.ne_of_lt (Nat.lt_of_lt_of_le lt_g hp.1) | omega) _, r.rowOther (by first | exact Nat.ne_of_lt (Nat.lt_of_lt_of_le lt_r hp.1) | omega) _, fun _ => ⟨hp.1, ?_⟩⟩
              rw [show upL L 16 16 = true from rfl]
              exact hp.2.row _
          refine stepV 17 rfl rfl (fun _ _ _ h => h) ?_ ?_
          · intros; go_simp; exact ⟨rfl, rfl⟩
          exact AllI.nil
        case hV0 =>
          intro p q
          refine AllI.cons ?_ ?_
          · skip
            iterate 18 (refine AllI.cons (by first | exact .inl rfl | (refine .inr ?_; simp only [List.getD_cons_zero, List.getD_cons_succ]; done) | exact .inr rfl) ?_)
            exact AllI.nil
          exact AllI.nil
        case he =>
        clear hB v g r
        rintro p wrrr ⟨hsz, hB, v, g, r, h_d⟩
        obtain ⟨le_d, d⟩ := h_d rfl
        clear h_d
        replace d : blk wrrr (p 15) (vfn (rdF G (x K).2.1 (x K).2.2)) 39 := d
        have ne_v_d : w.heap.size ≠ p 15 := Nat.ne_of_lt (Nat.lt_of_lt_of_le lt_v le_d)
        have ne_g_d : g_b ≠ p 15 := Nat.ne_of_lt (Nat.lt_of_lt_of_le lt_g le_d)
        have ne_r_d : r_b ≠ p 15 := Nat.ne_of_lt (Nat.lt_of_lt_of_le lt_r le_d)
        have ge_d : w.heap.size ≤ p 15 := Nat.le_trans hW0 le_d
        generalize p 15 = d_b at *
        clear lt_v
        clear lt_g
        clear lt_r
        clear hsz hW0
        go_upto_region 18 with (fail)
        have lt_v := v.lt
        have lt_g := g.lt
        have lt_r := r.lt
        have lt_d := d.lt
        have hW0 : w.heap.size ≤ wrrr.heap.size := by have := hB.size; first | exact this | simpa using this
        apply wp_region_I 18 [0, 0, 0, 6, 14, 30, 0, 0, 192, 448, 960, 2047, 4095, 8191, 8191, 0, 49151, 131071] [15] [_, _, _, _, _, _, _, _, _, _, _, _, _, _, _, (fun p => .pointer (some ⟨p 15, 0, none⟩)), (fun _ => undef), _] (fun p L w' => wrrr.heap.size ≤ w'.heap.size ∧ Below w.heap.size w w' ∧ blk w' w.heap.size (vfn B) 39 ∧ blk w' g_b (qfn G) 88 ∧ blk w' r_b (qfn G) 62 ∧ blk w' d_b (vfn (rdF G (x K).2.1 (x K).2.2)) 39 ∧ (L 15 = true → wrrr.heap.size ≤ p 15 ∧ blk w' (p 15) (bif L 16 then (vfn (rdF G (x K).2.1 (x K).2.2)) else (vfn fun _ => 0)) 39)) _ [(0, 92), (1, 93), (2, 94), (3, 95), (4, 96), (5, 97), (6, 98), (7, 99), (8, 100), (9, 101), (10, 102), (11, 103), (12, 91), (13, 104), (14, 105), (15, 14), (17, 15)] [0, 1, 2, 3, 4, 5, 6, 7, 8, 9, 10, 11, 12, 13, 14, 15, 16, 17]
        case hn => rfl
        case hm => kernel_rfl
        case hB => kernel_rfl
        case hds => kernel_rfl
        case hA => (intro p; simp only [putsD, Act.put, List.setIfInBounds_toArray, List.set_cons_zero, List.set_cons_succ, List.getD_cons_zero, List.getD_cons_succ]; exact rfl)
        case h0 => exact fun p => ⟨Nat.le_refl _, hB.drew, v.drew, g.drew, r.drew, d.drew, fun h => absurd h (by decide)⟩
        case hmore => exact fun p L w1 w2 ⟨hsz, hB, v, g, r, d, h_e⟩ hm => ⟨Nat.le_trans hsz hm.size, hB.trans (hm.mono (Nat.le_trans hW0 hsz)), v.below hm v.lt, g.below hm g.lt, r.below hm r.lt, d.below hm d.lt, fun hl => ⟨(h_e hl).1, (h_e hl).2.below hm (h_e hl).2.lt⟩⟩
        case hs =>
          intro more
          refine stepV 0 rfl rfl (fun _ _ _ h => h) ?_ ?_
          · rintro p L w1 ⟨hsz, hB, v, g, r, d, h_e⟩ hk
            have L16 : L 16 = false := hk.2.2 16 rfl
            first | exact valR_row _ _ rfl _ rfl _ _ r _ Try.underlying62 rfl (by first | kernel_rfl | (rw [qfn_size]; kernel_rfl)) rfl | (have hc := r.cellIs (qfn_get _ (show 0 < 4 by omega)); go_simp; exact ⟨rfl, rfl⟩)
          refine stepV 1 rfl rfl (fun _ _ _ h => h) ?_ ?_
          · intros; go_simp; exact ⟨rfl, rfl⟩
          refine stepV 2 rfl rfl (fun _ _ _ h => h) ?_ ?_
          · intros; go_simp; exact ⟨rfl, rfl⟩
          refine stepV 3 rfl rfl (fun _ _ _ h => h) ?_ ?_
          · intros; go_simp; exact ⟨rfl, rfl⟩
          refine stepV 4 rfl rfl (fun _ _ _ h => h) ?_ ?_
          · intros; go_simp; exact ⟨rfl, rfl⟩
          refine stepV 5 rfl rfl (fun _ _ _ h => h) ?_ ?_
          · rintro p L w1 ⟨hsz, hB, v, g, r, d, h_e⟩ hk
            have hr := range_below hE hB hEl
            exact valR_range _ _ rfl _ _ rfl _ (eo + K * 7) 1 hr (by first | rfl | omega) (vfn (x K).2.1) (mot_aL (x K)) _ Try.underlying39 rfl (by rw [vfn_size]; kernel_rfl) rfl
          refine stepV 6 rfl rfl (fun _ _ _ h => h) ?_ ?_
          · intros; go_simp; exact ⟨rfl, rfl⟩
          refine stepV 7 rfl rfl (fun _ _ _ h => h) ?_ ?_
          · intros; go_simp; exact ⟨rfl, rfl⟩
          refine stepV 8 rfl rfl (fun _ _ _ h => h) ?_ ?_
          · intros; go_simp; exact ⟨rfl, rfl⟩
          refine stepV 9 rfl rfl (fun _ _ _ h => h) ?_ ?_
          · intros; go_simp; exact ⟨rfl, rfl⟩
          refine stepV 10 rfl rfl (fun _ _ _ h => h) ?_ ?_
          · rintro p L w1 ⟨hsz, hB, v, g, r, d, h_e⟩ hk
            have hr := range_below hE hB hEl
            exact valR_range _ _ rfl _ _ rfl _ (eo + K * 7) 4 hr (by first | rfl | omega) (vfn (x K).2.2) (mot_bL (x K)) _ Try.underlying39 rfl (by rw [vfn_size]; kernel_rfl) rfl
          refine stepD 11 rfl (fun p => rfl) (fun _ _ _ h => h) more ?_ ?_
          · rintro p L w1 ⟨hsz, hB, v, g, r, d, h_e⟩ hk
            go_simp
            refine (RS.out _).mono ?_
            rintro e w2 ⟨rfl, h2⟩
            first | exact ⟨rfl, h2⟩ | (subst h2; exact ⟨rfl, Below.refl _ _⟩)
          refine stepV 12 rfl rfl (fun _ _ _ h => h) ?_ ?_
          · intros; go_simp; exact ⟨rfl, rfl⟩
          refine stepV 13 rfl rfl (fun _ _ _ h => h) ?_ ?_
          · intros; go_simp; exact ⟨rfl, rfl⟩
          refine stepV 14 rfl rfl (fun _ _ _ h => h) ?_ ?_
          · intros; go_simp; exact ⟨rfl, rfl⟩
          refine AllI.cons ?_ ?_
          · refine stepI_alloc 15 rfl (fun p => rfl) rfl (vfn fun _ => 0) 39 (fun p => rfl) ?_ ?_
            · intro p w1
              go_simp
              first | rfl | rw [zero_vec]
            rintro p L w1 ⟨hsz, hB, v, g, r, d, h_e⟩ hk
            have L16 : L 16 = false := hk.2.2 16 rfl
            refine ⟨Nat.le_trans hsz (by simp), hB.alloc (Nat.le_trans (by first | exact hW0 | (have := hB.size; simp at this ⊢; omega)) hsz) _, v.alloc _, g.alloc _, r.alloc _, d.alloc _, fun _ => ⟨hsz, ?_⟩⟩
            rw [show upL L 15 16 = false from L16]
            exact blk.new _ _ _
          refine AllI.cons ?_ ?_
          · refine stepI_store 16 rfl (fun p => rfl) (fun p => rfl) _ _ _ rfl (fun p => p 15) 0 (fun p => rfl) (fun p => (vfn (rdF G (x K).2.1 (x K).2.2))) (fun p => rfl) (fun p => (vfn fun _ => 0)) (fun p => (vfn (rdF G (x K).2.1 (x K).2.2))) 39 (fun p => over_v _ _) (fun p => by first | (rw [vfn_size, vfn_size]; decide) | simp [vfn_size, vfn_size]) (fun p => by rw [vfn_size]; kernel_rfl) (fun p => vfn_one _) ?_ ?_
            · rintro p L w1 ⟨hsz, hB, v, g, r, d, h_e⟩ hk
              have L16 : L 16 = false := hk.1
              have hh := (h_e (hk.2.1 15 rfl)).2
              rw [L16] at hh
              try simp only [cond_true, cond_false] at hh
              exact hh
            · rintro p L w1 ⟨hsz, hB, v, g, r, d, h_e⟩ hk
              have L16 : L 16 = false := hk.1
              skip
              have hp := h_e (hk.2.1 15 rfl)
              refine ⟨(by simpa using hsz), Below.setRow hB (by first | exact Nat.le_trans hW0 hp.1 | exact ge_e | omega | (have := hB.size; simp at this ⊢; omega)) _, v.rowOther (by first | exact Nat.ne_of_lt (Nat.lt_of_lt_of_le lt_v hp.1) | omega) _, g.rowOther (by first | exact Nat.ne_of_lt (Nat.lt_of_lt_of_le lt_g hp.1) | omega) _, r.rowOther (by first | exact Nat.ne_of_lt (Nat.lt_of_lt_of_le lt_r hp.1) | omega) _, d.rowOther (by first | exact Nat.ne_of_lt (Nat.lt_of_lt_of_le lt_d hp.1) | omega) _, fun _ => ⟨hp.1, ?_⟩⟩
              rw [show upL L 16 16 = true from rfl]
              exact hp.2.row _
          refine stepV 17 rfl rfl (fun _ _ _ h => h) ?_ ?_
          · intros; go_simp; exact ⟨rfl, rfl⟩
          exact AllI.nil
        case hV0 =>
          intro p q
          refine AllI.cons ?_ ?_
          · skip
            iterate 18 (refine AllI.cons (by first | exact .inl rfl | (refine .inr ?_; simp only [List.getD_cons_zero, List.getD_cons_succ]; done) | exact .inr rfl) ?_)
            exact AllI.nil
          exact AllI.nil
        case he =>
        clear hB v g r d
        rintro p wrrrr ⟨hsz, hB, v, g, r, d, h_e⟩
        obtain ⟨le_e, e⟩ := h_e rfl
        clear h_e
        replace e : blk wrrrr (p 15) (vfn (rdF G (x K).2.1 (x K).2.2)) 39 := e
        have ne_v_e : w.heap.size ≠ p 15 := Nat.ne_of_lt (Nat.lt_of_lt_of_le lt_v le_e)
        have ne_g_e : g_b ≠ p 15 := Nat.ne_of_lt (Nat.lt_of_lt_of_le lt_g le_e)
        have ne_r_e : r_b ≠ p 15 := Nat.ne_of_lt (Nat.lt_of_lt_of_le lt_r le_e)
        have ne_d_e : d_b ≠ p 15 := Nat.ne_of_lt (Nat.lt_of_lt_of_le lt_d le_e)
        have ge_e : w.heap.size ≤ p 15 := Nat.le_trans hW0 le_e
        generalize p 15 = e_b at *
        clear lt_v
        clear lt_g
        clear lt_r
        clear lt_d
        clear hsz hW0
        clear DR RR RD RS FD hE
        generalize rdF G (x K).2.1 (x K).2.2 = V at *
        go_upto_region 19 with (fail)
        have E1 := vec_eq_self V
        have lt_v := v.lt
        have lt_g := g.lt
        have lt_r := r.lt
        have lt_d := d.lt
        have lt_e := e.lt
        have hW0 : w.heap.size ≤ wrrrr.heap.size := by have := hB.size; first | exact this | simpa using this
        apply wp_region_Q 8 [0, 1, 3, 7, 15, 31, 63, 127] [] [_, _, _, _, _, _, _, _] (fun p L w' => wrrrr.heap.size ≤ w'.heap.size ∧ Below w.heap.size w w' ∧ blk w' w.heap.size (vfn B) 39 ∧ blk w' g_b (qfn G) 88 ∧ blk w' r_b (qfn G) 62 ∧ blk w' d_b (vfn V) 39 ∧ blk w' e_b (vfn V) 39) _ [(0, 106), (1, 107), (2, 108), (3, 109), (4, 110), (5, 111), (6, 112), (7, 113)] [0, 1, 2, 3, 4, 5, 6, 7]
        case hn => rfl
        case hB => kernel_rfl
        case hds => kernel_rfl
        case hA => (intro p; simp only [putsD, Act.put, List.setIfInBounds_toArray, List.set_cons_zero, List.set_cons_succ, List.getD_cons_zero, List.getD_cons_succ]; exact rfl)
        case h0 => exact fun p => ⟨Nat.le_refl _, hB, v, g, r, d, e⟩
        case hmore => exact fun p L w1 w2 ⟨hsz, hB, v, g, r, d, e⟩ hm => ⟨Nat.le_trans hsz hm.size, hB.trans (hm.mono (Nat.le_trans hW0 hsz)), v.below hm v.lt, g.below hm g.lt, r.below hm r.lt, d.below hm d.lt, e.below hm e.lt⟩
        case hs =>
          intro more
          refine stepV 0 rfl rfl (fun _ _ _ h => h) ?_ ?_
          · rintro p L w1 ⟨hsz, hB, v, g, r, d, e⟩ hk
            first | exact valR_row _ _ rfl _ rfl _ _ d _ Try.underlying39 rfl (by first | kernel_rfl | (rw [vfn_size]; kernel_rfl)) rfl | (have hc := d.cellIs (vfn_get _ (show 0 < 3 by omega)); go_simp; exact ⟨rfl, rfl⟩)
          refine stepV 1 rfl rfl (fun _ _ _ h => h) ?_ ?_
          · rintro p L w1 ⟨hsz, hB, v, g, r, d, e⟩ hk
            first | exact valR_row _ _ rfl _ rfl _ _ e _ Try.underlying39 rfl (by first | kernel_rfl | (rw [vfn_size]; kernel_rfl)) rfl | (have hc := e.cellIs (vfn_get _ (show 0 < 3 by omega)); go_simp; exact ⟨rfl, rfl⟩)
          refine stepV 2 rfl rfl (fun _ _ _ h => h) ?_ ?_
          · intros; go_simp; exact ⟨rfl, rfl⟩
          refine stepV 3 rfl rfl (fun _ _ _ h => h) ?_ ?_
          · intros; go_simp; exact ⟨rfl, rfl⟩
          refine stepVg 4 rfl (fun p => (by first | rfl | (simp [Region.wanted, yielded]; done))) (fun _ _ _ h => h) ?_ ?_
          · intros; go_simp; exact ⟨rfl, rfl⟩
          refine stepVg 5 rfl (fun p => (by first | rfl | (simp [Region.wanted, yielded]; done))) (fun _ _ _ h => h) ?_ ?_
          · intros; go_simp; exact ⟨rfl, rfl⟩
          refine stepVg 6 rfl (fun p => (by first | rfl | (simp [Region.wanted, yielded]; done))) (fun _ _ _ h => h) ?_ ?_
          · intros; go_simp; exact ⟨rfl, rfl⟩
          refine stepV 7 rfl rfl (fun _ _ _ h => h) ?_ ?_
          · intros; go_simp; exact ⟨rfl, rfl⟩
          exact AllI.nil
        case hV0 => exact fun p q => AllI.nil
        case he =>
        clear hB v g r d e
        rintro p wrrrrr ⟨hsz, hB, v, g, r, d, e⟩
        clear lt_v
        clear lt_g
        clear lt_r
        clear lt_d
        clear lt_e
        clear hsz hW0
        clear E1
        have h3 : G 3 ≠ 0 := by have := FQ.2; omega
        have BI := Lib.hid (fun w (hg : blk w g_b (qfn G) 88) => gbias_any G g_b w hg h3)
        clear h3
        go_upto_region 21 with (fail)
        have E2 := vec_eq_self G
        have lt_v := v.lt
        have lt_g := g.lt
        have lt_r := r.lt
        have lt_d := d.lt
        have lt_e := e.lt
        have hW0 : w.heap.size ≤ wrrrrr.heap.size := by have := hB.size; first | exact this | simpa using this
        apply wp_region_I 5 [0, 1, 0, 4, 15] [] [_, _, _, _, _] (fun p L w' => wrrrrr.heap.size ≤ w'.heap.size ∧ Below w.heap.size w w' ∧ blk w' w.heap.size (vfn B) 39 ∧ blk w' g_b (qfn G) 88 ∧ blk w' r_b (qfn G) 62 ∧ blk w' d_b (vfn V) 39 ∧ blk w' e_b (vfn V) 39) _ [(0, 114), (1, 115), (2, 116), (3, 117), (4, 118)] [0, 1, 2, 3, 4]
        case hn => rfl
        case hm => kernel_rfl
        case hB => kernel_rfl
        case hds => kernel_rfl
        case hA => (intro p; simp only [putsD, Act.put, List.setIfInBounds_toArray, List.set_cons_zero, List.set_cons_succ, List.getD_cons_zero, List.getD_cons_succ]; exact rfl)
        case h0 => exact fun p => ⟨Nat.le_refl _, hB.drew, v.drew, g.drew, r.drew, d.drew, e.drew⟩
        case hmore => exact fun p L w1 w2 ⟨hsz, hB, v, g, r, d, e⟩ hm => ⟨Nat.le_trans hsz hm.size, hB.trans (hm.mono (Nat.le_trans hW0 hsz)), v.below hm v.lt, g.below hm g.lt, r.below hm r.lt, d.below hm d.lt, e.below hm e.lt⟩
        case hs =>
          intro more
          refine stepV 0 rfl rfl (fun _ _ _ h => h) ?_ ?_
          · intros; go_simp; exact ⟨rfl, rfl⟩
          refine stepD 1 rfl (fun p => rfl) (fun _ _ _ h => h) more ?_ ?_
          · rintro p L w1 ⟨hsz, hB, v, g, r, d, e⟩ hk
            go_simp
            refine (BI.out _ g).mono ?_
            rintro e w2 ⟨rfl, h2⟩
            first | exact ⟨rfl, h2⟩ | (subst h2; exact ⟨rfl, Below.refl _ _⟩)
          refine stepV 2 rfl rfl (fun _ _ _ h => h) ?_ ?_
          · intros; go_simp; exact ⟨rfl, rfl⟩
          refine stepV 3 rfl rfl (fun _ _ _ h => h) ?_ ?_
          · rintro p L w1 ⟨hsz, hB, v, g, r, d, e⟩ hk
            exact valR_part _ _ rfl _ 0 rfl _ _ r (vfn G) (part_q G) _ Try.underlying39 rfl (by rw [vfn_size]; kernel_rfl) rfl
          refine stepV 4 rfl rfl (fun _ _ _ h => h) ?_ ?_
          · intros; go_simp; exact ⟨rfl, rfl⟩
          exact AllI.nil
        case hV0 => exact fun p q => AllI.nil
        case he =>
        clear hB v g r d e
        rintro p wrrrrrr ⟨hsz, hB, v, g, r, d, e⟩
        clear lt_v
        clear lt_g
        clear lt_r
        clear lt_d
        clear lt_e
        clear hsz hW0
        clear E2 BI
        go_wp2_with (fail)
        go_roundg (n - (K + 1))
        case rel => exact ⟨K + 1, G, by omega, rfl, FQ, v, g, r, hB⟩
        case measure => omega
    · obtain rfl : K = n := by omega
      have hdK : decide ((K : Int) < K) = false := decide_eq_false (by omega)
      have hdK' : decide (K < K) = false := decide_eq_false (by omega)
      go_wp2_with (first
        | (refine wpList_load_rowG ?hw _ _ rfl _ rfl _ _ _ _ v Try.underlying39 rfl ?hi ?_; (case hw => (first | rfl | (simp [Region.wanted, yielded]; done))); (case hi => (first | kernel_rfl | (rw [vfn_size]; kernel_rfl))))
        | (refine wpList_load_rowG ?hw _ _ rfl _ rfl _ _ _ _ r Try.underlying62 rfl ?hi ?_; (case hw => (first | rfl | (simp [Region.wanted, yielded]; done))); (case hi => (first | kernel_rfl | (rw [qfn_size]; kernel_rfl))))
        | (go_at_call 25; with_reducible refine (AW.out _).mono ?_; rintro e w9 ⟨rfl, hb⟩; replace hB := hB.trans (hb.mono hB.size); replace v := v.below hb v.lt; replace g := g.below hb g.lt; replace r := r.below hb r.lt; clear hb))
      go_ret
      exact ⟨rfl, hB⟩
theorem greads_any (B : Nat → Int) (m : Int) (a : Option Addr) (n c : Nat) (x : Nat → Bool × (Nat → Int) × (Nat → Int)) (w : World) (el : ElemsA w a n 7 (fun k => (mot (x k)).toList)) (hx : ∀ k, k < n → Wmot (x k)) :
    Calls Try.prog 6 #[.agg (vfn B), .int .i64 m, .slice a n c] w fun e w' => e = .returned (.bool true) ∧ Below w.heap.size w w' := by
  by_cases hn : 60 < n
  · exact greads_no B m a n c w hn
  · cases hv : gyOk B m with
    | true => exact greads_ok B m a n c x w (by omega) hv el hx
    | false => exact greads_in B m a n c w (by omega) hv
end Go.Proofs.Ytnkjbdfhdenbcaa
