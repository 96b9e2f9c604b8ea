/-
  Filters settle: the walk.
-/
import Derived.Test.YtkmelddejdikgaaFilP
import Derived.Test.YtkmelddejdikgaaArgH
import Derived.Test.YtkmelddejdikgaaAw21
set_option linter.unusedSimpArgs false
set_option linter.unusedVariables false
namespace Go.Proofs.Ytkmelddejdikgaa
open Go.RowKit PM Dt
theorem bet_valid {f g : Nat → Int} (hf : validQ f = true) (hg : validQ g = true) : betE f g = 0 := by unfold betE; rw [hf, hg]; rfl
theorem rd_eq {b : Nat → Int} (h : ∀ i, i < 3 → -262144 ≤ b i ∧ b i ≤ 262144) : ∀ i, i < 3 → readF (gyS b 1099511627776) (fun _ => 0) (fun _ => 0) i = b i := fun i hi => by
  have := h i hi
  have e : sumF (pick3 (fun _ => 0) (gyS b 1099511627776) (fun _ => 0)) 3 i = b i := by
    rcases (show i = 0 ∨ i = 1 ∨ i = 2 by omega) with rfl | rfl | rfl <;> simp [sumF, pick3, gyS]
  unfold readF
  rw [e]
  show clampV (b i) (-1099511627776) 1099511627776 = b i
  unfold clampV
  split <;> (try split) <;> omega
theorem rd_pred {b : Nat → Int} (h : ∀ i, i < 3 → -262144 ≤ b i ∧ b i ≤ 262144) : predE (readF (gyS b 1099511627776) (fun _ => 0) (fun _ => 0)) = 0 := by
  unfold predE
  rw [small_of fun i hi => by have := h i hi; rw [rd_eq h i hi]; omega]
  rfl
/-- What the gyros read of a body that stands still. -/
def rdS (b : Nat → Int) : Nat → Int := readF (gyS b 1099511627776) (fun _ => 0) (fun _ => 0)
/-- The filter behind so many ticks. -/
def stS (q b : Nat → Int) : Nat → (Nat → Int) × (Nat → Int)
  | 0 => (q, fun _ => 0)
  | k + 1 => (corQ (predQ (stS q b k).1 (stS q b k).2 (rdS b)) q, corB (predQ (stS q b k).1 (stS q b k).2 (rdS b)) (stS q b k).2 q)
theorem stS_FI {q b : Nat → Int} (hq : ∀ i, i < 4 → I64 (q i)) (hv : validQ q = true) : ∀ k, FI (stS q b k).1 (stS q b k).2
  | 0 => FI.new hq hv
  | k + 1 => ((stS_FI hq hv k).pred (rdS b)).cor hq
/-- What the law asks of the filter at last. -/
structure Settled (q b Q B : Nat → Int) : Prop where
  e : normE (offF (betF Q q)) = 0
  n : normV (offF (betF Q q)) ≤ 512
  b : ∀ i, i < 3 → b i - 512 ≤ B i ∧ B i ≤ b i + 512
set_option maxRecDepth 100000 in
set_option maxHeartbeats 8000000 in
theorem gsettles_no (q b : Nat → Int) (w : World) (hq : ∀ i, i < 4 → I64 (q i)) (hv : validQ q = false) : Calls Try.prog 10 #[.agg (qfn q), .agg (vfn b)] w fun e w' => e = .returned (.bool true) ∧ Below w.heap.size w w' := by
  have AW := Lib.hid (fun w => awake21_any w)
  have NF := Lib.hid (fun w => fnew_no q w hq hv)
  clear hq hv
  go_enter Try.func10, Try.ntmps10
  go_upto_region 1 with (fail)
  have v : blk ((w.alloc (.cells (qfn q) 23)).alloc (.cells (vfn b) 31)) w.heap.size (qfn q) 23 := (blk.new _ _ _).alloc _
  have z : blk ((w.alloc (.cells (qfn q) 23)).alloc (.cells (vfn b) 31)) (w.heap.size + 1) (vfn b) 31 := blk.new' (by simp)
  have hB : Below w.heap.size w ((w.alloc (.cells (qfn q) 23)).alloc (.cells (vfn b) 31)) := by go_grown
  generalize ((w.alloc (.cells (qfn q) 23)).alloc (.cells (vfn b) 31)) = w0 at *
  have ne_v_z : w.heap.size ≠ w.heap.size + 1 := by omega
  go_wp2_with (fail)
  go_loopg [5] 3 (fun g_ iv wr => ∃ k : Nat, g_ + k = 3 ∧ iv = .int .i64 k ∧ Hid (∀ j, j < k → -262144 ≤ b j ∧ b j ≤ 262144) ∧ blk wr w.heap.size (qfn q) 23 ∧ blk wr (w.heap.size + 1) (vfn b) 31 ∧ Below w.heap.size w wr)
  case atStart => exact ⟨0, rfl, rfl, fun j hj => absurd hj (by omega), v, z, hB⟩
  case round =>
    clear v z hB
    obtain ⟨k, hk, rfl, HL, v, z, hB⟩ := hrel
    by_cases hkn : k < 3
    · have hdk : decide ((k : Int) < 3) = true := decide_eq_true (by omega)
      have hdk' : decide (k < 3) = true := decide_eq_true (by omega)
      have hk3 : (k : Int) < 3 := by omega
      have hw3 : IntKind.i64.wrap ((k : Int) + 1) = ((k + 1 : Nat) : Int) := by rw [IntKind.wrap_i64]; omega
      by_cases hb : -262144 ≤ b k ∧ b k ≤ 262144
      · have e1 : decide ((262144 : Int) < b k) = false := decide_eq_false (by omega)
        have e2 : decide (b k < -262144) = false := decide_eq_false (by omega)
        have HL2 : Hid (∀ j, j < k + 1 → -262144 ≤ b j ∧ b j ≤ 262144) := fun j hj => by
          by_cases hjk : j = k
          · subst hjk; exact hb
          · exact HL.out j (by omega)
        clear hb
        go_upto_region 4 with (fail)
        have lt_v := v.lt
        have lt_z := z.lt
        have hW0 : w.heap.size ≤ wr.heap.size := by have := hB.size; first | exact this | simpa using this
        apply wp_region_Q 10 [0, 1, 3, 7, 15, 31, 63, 127, 255, 511] [] [_, _, _, _, _, _, _, _, _, _] (fun p L w' => wr.heap.size ≤ w'.heap.size ∧ Below w.heap.size w w' ∧ blk w' w.heap.size (qfn q) 23 ∧ blk w' (w.heap.size + 1) (vfn b) 31) _ [(0, 23), (1, 24), (2, 25), (3, 26), (4, 27), (5, 28), (6, 29), (7, 30), (8, 31), (9, 32)] [0, 1, 2, 3, 4, 5, 6, 7, 8, 9]
        case hn => rfl
        case hB => kernel_rfl
        case hds => kernel_rfl
        case hA => (intro p; simp only [putsD, Act.put, List.setIfInBounds_toArray, List.set_cons_zero, List.set_cons_succ, List.getD_cons_zero, List.getD_cons_succ]; exact rfl)
        case h0 => exact fun p => ⟨Nat.le_refl _, hB, v, z⟩
        case hmore => exact fun p L w1 w2 ⟨hsz, hB, v, z⟩ hm => ⟨Nat.le_trans hsz hm.size, hB.trans (hm.mono (Nat.le_trans hW0 hsz)), v.below hm v.lt, z.below hm z.lt⟩
        case hs =>
          intro more
          iterate 2 (refine stepV _ rfl rfl (fun _ _ _ h => h) (by intros; go_simp; exact ⟨rfl, rfl⟩) ?_)
          refine stepV 2 rfl rfl (fun _ _ _ h => h) ?_ ?_
          · rintro p L w1 ⟨hsz, hB, v, z⟩ hk
            have hc : w1.cell? ⟨w.heap.size + 1, k, none⟩ = some (.int .i64 (b k)) := z.cellIs (vfn_get _ hkn)
            go_simp
            exact ⟨rfl, rfl⟩
          iterate 2 (refine stepV _ rfl rfl (fun _ _ _ h => h) (by intros; go_simp; exact ⟨rfl, rfl⟩) ?_)
          iterate 2 (refine stepVg _ rfl (fun p => (by first | rfl | (simp [Region.wanted, yielded]; done))) (fun _ _ _ h => h) (by intros; go_simp; exact ⟨rfl, rfl⟩) ?_)
          refine stepVg 7 rfl (fun p => (by first | rfl | (simp [Region.wanted, yielded]; done))) (fun _ _ _ h => h) ?_ ?_
          · rintro p L w1 ⟨hsz, hB, v, z⟩ hk
            have hc : w1.cell? ⟨w.heap.size + 1, k, none⟩ = some (.int .i64 (b k)) := z.cellIs (vfn_get _ hkn)
            go_simp
            exact ⟨rfl, rfl⟩
          refine stepVg _ rfl (fun p => (by first | rfl | (simp [Region.wanted, yielded]; done))) (fun _ _ _ h => h) (by intros; go_simp; exact ⟨rfl, rfl⟩) ?_
          refine stepV _ rfl rfl (fun _ _ _ h => h) (by intros; go_simp; exact ⟨rfl, rfl⟩) ?_
          exact AllI.nil
        case hV0 => exact fun p q => AllI.nil
        case he =>
        clear hB v z
        rintro p wrr ⟨hsz, hB, v, z⟩
        clear lt_v
        clear lt_z
        clear hsz hW0
        go_wp2_with (fail)
        go_roundg (3 - (k + 1))
        case rel => exact ⟨k + 1, by omega, rfl, HL2, v, z, hB⟩
        case measure => omega
      · by_cases hb1 : (262144 : Int) < b k
        · have e1 : decide ((262144 : Int) < b k) = true := decide_eq_true (by omega)
          clear hb hb1
          go_upto_region 4 with (fail)
          have lt_v := v.lt
          have lt_z := z.lt
          have hW0 : w.heap.size ≤ wr.heap.size := by have := hB.size; first | exact this | simpa using this
          apply wp_region_Q 10 [0, 1, 3, 7, 15, 31, 63, 127, 255, 511] [] [_, _, _, _, _, _, _, _, _, _] (fun p L w' => wr.heap.size ≤ w'.heap.size ∧ Below w.heap.size w w' ∧ blk w' w.heap.size (qfn q) 23 ∧ blk w' (w.heap.size + 1) (vfn b) 31) _ [(0, 23), (1, 24), (2, 25), (3, 26), (4, 27), (5, 28), (6, 29), (7, 30), (8, 31), (9, 32)] [0, 1, 2, 3, 4, 5, 6, 7, 8, 9]
          case hn => rfl
          case hB => kernel_rfl
          case hds => kernel_rfl
          case hA => (intro p; simp only [putsD, Act.put, List.setIfInBounds_toArray, List.set_cons_zero, List.set_cons_succ, List.getD_cons_zero, List.getD_cons_succ]; exact rfl)
          case h0 => exact fun p => ⟨Nat.le_refl _, hB, v, z⟩
          case hmore => exact fun p L w1 w2 ⟨hsz, hB, v, z⟩ hm => ⟨Nat.le_trans hsz hm.size, hB.trans (hm.mono (Nat.le_trans hW0 hsz)), v.below hm v.lt, z.below hm z.lt⟩
          case hs =>
            intro more
            iterate 2 (refine stepV _ rfl rfl (fun _ _ _ h => h) (by intros; go_simp; exact ⟨rfl, rfl⟩) ?_)
            refine stepV 2 rfl rfl (fun _ _ _ h => h) ?_ ?_
            · rintro p L w1 ⟨hsz, hB, v, z⟩ hk
              have hc : w1.cell? ⟨w.heap.size + 1, k, none⟩ = some (.int .i64 (b k)) := z.cellIs (vfn_get _ hkn)
              go_simp
              exact ⟨rfl, rfl⟩
            iterate 2 (refine stepV _ rfl rfl (fun _ _ _ h => h) (by intros; go_simp; exact ⟨rfl, rfl⟩) ?_)
            iterate 4 (refine AllI.cons (stepI_off _ rfl (fun p => rfl) (fun p => rfl) (fun _ _ _ h => h)) ?_)
            refine stepV _ rfl rfl (fun _ _ _ h => h) (by intros; go_simp; exact ⟨rfl, rfl⟩) ?_
            exact AllI.nil
          case hV0 => exact fun p q => AllI.nil
          case he =>
          clear hB v z
          rintro p wrr ⟨hsz, hB, v, z⟩
          clear lt_v
          clear lt_z
          clear hsz hW0
          go_wp2_with (first
            | (refine wpList_load_rowG ?hw _ _ rfl _ rfl _ _ _ _ v Try.underlying23 rfl ?hi ?_; (case hw => (first | rfl | (simp [Region.wanted, yielded]; done))); (case hi => (first | kernel_rfl | (rw [qfn_size]; kernel_rfl))))
            | (refine wpList_load_rowG ?hw _ _ rfl _ rfl _ _ _ _ z Try.underlying31 rfl ?hi ?_; (case hw => (first | rfl | (simp [Region.wanted, yielded]; done))); (case hi => (first | kernel_rfl | (rw [vfn_size]; kernel_rfl))))
            | (go_at_call 37; with_reducible refine (AW.out _).mono ?_; rintro e w9 ⟨rfl, hb⟩; replace hB := hB.trans (hb.mono hB.size); replace v := v.below hb v.lt; replace z := z.below hb z.lt; clear hb))
          go_ret
          exact ⟨rfl, hB⟩
        · have e1 : decide ((262144 : Int) < b k) = false := decide_eq_false (by omega)
          have e2 : decide (b k < -262144) = true := decide_eq_true (by omega)
          clear hb hb1
          go_upto_region 4 with (fail)
          have lt_v := v.lt
          have lt_z := z.lt
          have hW0 : w.heap.size ≤ wr.heap.size := by have := hB.size; first | exact this | simpa using this
          apply wp_region_Q 10 [0, 1, 3, 7, 15, 31, 63, 127, 255, 511] [] [_, _, _, _, _, _, _, _, _, _] (fun p L w' => wr.heap.size ≤ w'.heap.size ∧ Below w.heap.size w w' ∧ blk w' w.heap.size (qfn q) 23 ∧ blk w' (w.heap.size + 1) (vfn b) 31) _ [(0, 23), (1, 24), (2, 25), (3, 26), (4, 27), (5, 28), (6, 29), (7, 30), (8, 31), (9, 32)] [0, 1, 2, 3, 4, 5, 6, 7, 8, 9]
          case hn => rfl
          case hB => kernel_rfl
          case hds => kernel_rfl
          case hA => (intro p; simp only [putsD, Act.put, List.setIfInBounds_toArray, List.set_cons_zero, List.set_cons_succ, List.getD_cons_zero, List.getD_cons_succ]; exact rfl)
          case h0 => exact fun p => ⟨Nat.le_refl _, hB, v, z⟩
          case hmore => exact fun p L w1 w2 ⟨hsz, hB, v, z⟩ hm => ⟨Nat.le_trans hsz hm.size, hB.trans (hm.mono (Nat.le_trans hW0 hsz)), v.below hm v.lt, z.below hm z.lt⟩
          case hs =>
            intro more
            iterate 2 (refine stepV _ rfl rfl (fun _ _ _ h => h) (by intros; go_simp; exact ⟨rfl, rfl⟩) ?_)
            refine stepV 2 rfl rfl (fun _ _ _ h => h) ?_ ?_
            · rintro p L w1 ⟨hsz, hB, v, z⟩ hk
              have hc : w1.cell? ⟨w.heap.size + 1, k, none⟩ = some (.int .i64 (b k)) := z.cellIs (vfn_get _ hkn)
              go_simp
              exact ⟨rfl, rfl⟩
            iterate 2 (refine stepV _ rfl rfl (fun _ _ _ h => h) (by intros; go_simp; exact ⟨rfl, rfl⟩) ?_)
            iterate 2 (refine stepVg _ rfl (fun p => (by first | rfl | (simp [Region.wanted, yielded]; done))) (fun _ _ _ h => h) (by intros; go_simp; exact ⟨rfl, rfl⟩) ?_)
            refine stepVg 7 rfl (fun p => (by first | rfl | (simp [Region.wanted, yielded]; done))) (fun _ _ _ h => h) ?_ ?_
            · rintro p L w1 ⟨hsz, hB, v, z⟩ hk
              have hc : w1.cell? ⟨w.heap.size + 1, k, none⟩ = some (.int .i64 (b k)) := z.cellIs (vfn_get _ hkn)
              go_simp
              exact ⟨rfl, rfl⟩
            refine stepVg _ rfl (fun p => (by first | rfl | (simp [Region.wanted, yielded]; done))) (fun _ _ _ h => h) (by intros; go_simp; exact ⟨rfl, rfl⟩) ?_
            refine stepV _ rfl rfl (fun _ _ _ h => h) (by intros; go_simp; exact ⟨rfl, rfl⟩) ?_
            exact AllI.nil
          case hV0 => exact fun p q => AllI.nil
          case he =>
          clear hB v z
          rintro p wrr ⟨hsz, hB, v, z⟩
          clear lt_v
          clear lt_z
          clear hsz hW0
          go_wp2_with (first
            | (refine wpList_load_rowG ?hw _ _ rfl _ rfl _ _ _ _ v Try.underlying23 rfl ?hi ?_; (case hw => (first | rfl | (simp [Region.wanted, yielded]; done))); (case hi => (first | kernel_rfl | (rw [qfn_size]; kernel_rfl))))
            | (refine wpList_load_rowG ?hw _ _ rfl _ rfl _ _ _ _ z Try.underlying31 rfl ?hi ?_; (case hw => (first | rfl | (simp [Region.wanted, yielded]; done))); (case hi => (first | kernel_rfl | (rw [vfn_size]; kernel_rfl))))
            | (go_at_call 37; with_reducible refine (AW.out _).mono ?_; rintro e w9 ⟨rfl, hb⟩; replace hB := hB.trans (hb.mono hB.size); replace v := v.below hb v.lt; replace z := z.below hb z.lt; clear hb))
          go_ret
          exact ⟨rfl, hB⟩
    · obtain rfl : k = 3 := by omega
      clear HL
      go_upto_region 6 with (fail)
      have lt_v := v.lt
      have lt_z := z.lt
      have hW0 : w.heap.size ≤ wr.heap.size := by have := hB.size; first | exact this | simpa using this
      apply wp_region_Q 7 [0, 1, 3, 7, 15, 31, 63] [] [_, _, _, _, _, _, _] (fun p L w' => wr.heap.size ≤ w'.heap.size ∧ Below w.heap.size w w' ∧ blk w' w.heap.size (qfn q) 23 ∧ blk w' (w.heap.size + 1) (vfn b) 31) _ [(0, 35), (1, 36), (2, 34), (3, 37), (4, 38), (5, 6), (6, 7)] [0, 1, 2, 3, 4, 5, 6]
      case hn => rfl
      case hB => kernel_rfl
      case hds => kernel_rfl
      case hA => (intro p; simp only [putsD, Act.put, List.setIfInBounds_toArray, List.set_cons_zero, List.set_cons_succ, List.getD_cons_zero, List.getD_cons_succ]; exact rfl)
      case h0 => exact fun p => ⟨Nat.le_refl _, hB, v, z⟩
      case hmore => exact fun p L w1 w2 ⟨hsz, hB, v, z⟩ hm => ⟨Nat.le_trans hsz hm.size, hB.trans (hm.mono (Nat.le_trans hW0 hsz)), v.below hm v.lt, z.below hm z.lt⟩
      case hs =>
        intro more
        refine stepV 0 rfl rfl (fun _ _ _ h => h) ?_ ?_
        · rintro p L w1 ⟨hsz, hB, v, z⟩ hk
          first | exact valR_row _ _ rfl _ rfl _ _ v _ Try.underlying23 rfl (by first | kernel_rfl | (rw [qfn_size]; kernel_rfl)) rfl | (have hc := v.cellIs (qfn_get _ (show 0 < 4 by omega)); go_simp; exact ⟨rfl, rfl⟩)
        refine stepD 1 rfl (fun p => rfl) (fun _ _ _ h => h) more ?_ ?_
        · rintro p L w1 ⟨hsz, hB, v, z⟩ hk
          go_simp
          refine (NF.out _).mono ?_
          rintro e w2 ⟨rfl, h2⟩
          first | exact ⟨rfl, h2⟩ | (subst h2; exact ⟨rfl, Below.refl _ _⟩)
        iterate 5 (refine stepV _ rfl rfl (fun _ _ _ h => h) (by intros; go_simp; exact ⟨rfl, rfl⟩) ?_)
        exact AllI.nil
      case hV0 => exact fun p q => AllI.nil
      case he =>
      clear hB v z
      rintro p wrr ⟨hsz, hB, v, z⟩
      clear lt_v
      clear lt_z
      clear hsz hW0
      clear NF
      go_wp2_with (first
        | (refine wpList_load_rowG ?hw _ _ rfl _ rfl _ _ _ _ v Try.underlying23 rfl ?hi ?_; (case hw => (first | rfl | (simp [Region.wanted, yielded]; done))); (case hi => (first | kernel_rfl | (rw [qfn_size]; kernel_rfl))))
        | (refine wpList_load_rowG ?hw _ _ rfl _ rfl _ _ _ _ z Try.underlying31 rfl ?hi ?_; (case hw => (first | rfl | (simp [Region.wanted, yielded]; done))); (case hi => (first | kernel_rfl | (rw [vfn_size]; kernel_rfl))))
        | (go_at_call 37; with_reducible refine (AW.out _).mono ?_; rintro e w9 ⟨rfl, hb⟩; replace hB := hB.trans (hb.mono hB.size); replace v := v.below hb v.lt; replace z := z.below hb z.lt; clear hb))
      go_ret
      exact ⟨rfl, hB⟩
set_option maxRecDepth 100000 in
set_option maxHeartbeats 20000000 in
theorem gsettles_ok (q b : Nat → Int) (w : World) (hq : ∀ i, i < 4 → I64 (q i)) (hv : validQ q = true) (HS : (∀ i, i < 3 → -262144 ≤ b i ∧ b i ≤ 262144) → Settled q b (stS q b 400).1 (stS q b 400).2) : Calls Try.prog 10 #[.agg (qfn q), .agg (vfn b)] w fun e w' => e = .returned (.bool true) ∧ Below w.heap.size w w' := by
  have AW := Lib.hid (fun w => awake21_any w)
  have NF := Lib.hid (fun w => fnew_ok q w hq hv)
  have FS := Lib.hid (fun k => stS_FI (b := b) hq hv k)
  replace hq := Lib.hid hq
  replace hv := Lib.hid hv
  replace HS := Lib.hid HS
  go_enter Try.func10, Try.ntmps10
  go_upto_region 1 with (fail)
  have v : blk ((w.alloc (.cells (qfn q) 23)).alloc (.cells (vfn b) 31)) w.heap.size (qfn q) 23 := (blk.new _ _ _).alloc _
  have z : blk ((w.alloc (.cells (qfn q) 23)).alloc (.cells (vfn b) 31)) (w.heap.size + 1) (vfn b) 31 := blk.new' (by simp)
  have hB : Below w.heap.size w ((w.alloc (.cells (qfn q) 23)).alloc (.cells (vfn b) 31)) := by go_grown
  generalize ((w.alloc (.cells (qfn q) 23)).alloc (.cells (vfn b) 31)) = w0 at *
  have ne_v_z : w.heap.size ≠ w.heap.size + 1 := by omega
  go_wp2_with (fail)
  go_loopg [5] 3 (fun g_ iv wr => ∃ k : Nat, g_ + k = 3 ∧ iv = .int .i64 k ∧ Hid (∀ j, j < k → -262144 ≤ b j ∧ b j ≤ 262144) ∧ blk wr w.heap.size (qfn q) 23 ∧ blk wr (w.heap.size + 1) (vfn b) 31 ∧ Below w.heap.size w wr)
  case atStart => exact ⟨0, rfl, rfl, fun j hj => absurd hj (by omega), v, z, hB⟩
  case round =>
    clear v z hB
    obtain ⟨k, hk, rfl, HL, v, z, hB⟩ := hrel
    by_cases hkn : k < 3
    · have hdk : decide ((k : Int) < 3) = true := decide_eq_true (by omega)
      have hdk' : decide (k < 3) = true := decide_eq_true (by omega)
      have hk3 : (k : Int) < 3 := by omega
      have hw3 : IntKind.i64.wrap ((k : Int) + 1) = ((k + 1 : Nat) : Int) := by rw [IntKind.wrap_i64]; omega
      by_cases hb : -262144 ≤ b k ∧ b k ≤ 262144
      · have e1 : decide ((262144 : Int) < b k) = false := decide_eq_false (by omega)
        have e2 : decide (b k < -262144) = false := decide_eq_false (by omega)
        have HL2 : Hid (∀ j, j < k + 1 → -262144 ≤ b j ∧ b j ≤ 262144) := fun j hj => by
          by_cases hjk : j = k
          · subst hjk; exact hb
          · exact HL.out j (by omega)
        clear hb
        go_upto_region 4 with (fail)
        have lt_v := v.lt
        have lt_z := z.lt
        have hW0 : w.heap.size ≤ wr.heap.size := by have := hB.size; first | exact this | simpa using this
        apply wp_region_Q 10 [0, 1, 3, 7, 15, 31, 63, 127, 255, 511] [] [_, _, _, _, _, _, _, _, _, _] (fun p L w' => wr.heap.size ≤ w'.heap.size ∧ Below w.heap.size w w' ∧ blk w' w.heap.size (qfn q) 23 ∧ blk w' (w.heap.size + 1) (vfn b) 31) _ [(0, 23), (1, 24), (2, 25), (3, 26), (4, 27), (5, 28), (6, 29), (7, 30), (8, 31), (9, 32)] [0, 1, 2, 3, 4, 5, 6, 7, 8, 9]
        case hn => rfl
        case hB => kernel_rfl
        case hds => kernel_rfl
        case hA => (intro p; simp only [putsD, Act.put, List.setIfInBounds_toArray, List.set_cons_zero, List.set_cons_succ, List.getD_cons_zero, List.getD_cons_succ]; exact rfl)
        case h0 => exact fun p => ⟨Nat.le_refl _, hB, v, z⟩
        case hmore => exact fun p L w1 w2 ⟨hsz, hB, v, z⟩ hm => ⟨Nat.le_trans hsz hm.size, hB.trans (hm.mono (Nat.le_trans hW0 hsz)), v.below hm v.lt, z.below hm z.lt⟩
        case hs =>
          intro more
          iterate 2 (refine stepV _ rfl rfl (fun _ _ _ h => h) (by intros; go_simp; exact ⟨rfl, rfl⟩) ?_)
          refine stepV 2 rfl rfl (fun _ _ _ h => h) ?_ ?_
          · rintro p L w1 ⟨hsz, hB, v, z⟩ hk
            have hc : w1.cell? ⟨w.heap.size + 1, k, none⟩ = some (.int .i64 (b k)) := z.cellIs (vfn_get _ hkn)
            go_simp
            exact ⟨rfl, rfl⟩
          iterate 2 (refine stepV _ rfl rfl (fun _ _ _ h => h) (by intros; go_simp; exact ⟨rfl, rfl⟩) ?_)
          iterate 2 (refine stepVg _ rfl (fun p => (by first | rfl | (simp [Region.wanted, yielded]; done))) (fun _ _ _ h => h) (by intros; go_simp; exact ⟨rfl, rfl⟩) ?_)
          refine stepVg 7 rfl (fun p => (by first | rfl | (simp [Region.wanted, yielded]; done))) (fun _ _ _ h => h) ?_ ?_
          · rintro p L w1 ⟨hsz, hB, v, z⟩ hk
            have hc : w1.cell? ⟨w.heap.size + 1, k, none⟩ = some (.int .i64 (b k)) := z.cellIs (vfn_get _ hkn)
            go_simp
            exact ⟨rfl, rfl⟩
          refine stepVg _ rfl (fun p => (by first | rfl | (simp [Region.wanted, yielded]; done))) (fun _ _ _ h => h) (by intros; go_simp; exact ⟨rfl, rfl⟩) ?_
          refine stepV _ rfl rfl (fun _ _ _ h => h) (by intros; go_simp; exact ⟨rfl, rfl⟩) ?_
          exact AllI.nil
        case hV0 => exact fun p q => AllI.nil
        case he =>
        clear hB v z
        rintro p wrr ⟨hsz, hB, v, z⟩
        clear lt_v
        clear lt_z
        clear hsz hW0
        go_wp2_with (fail)
        go_roundg (3 - (k + 1))
        case rel => exact ⟨k + 1, by omega, rfl, HL2, v, z, hB⟩
        case measure => omega
      · by_cases hb1 : (262144 : Int) < b k
        · have e1 : decide ((262144 : Int) < b k) = true := decide_eq_true (by omega)
          clear hb hb1
          go_upto_region 4 with (fail)
          have lt_v := v.lt
          have lt_z := z.lt
          have hW0 : w.heap.size ≤ wr.heap.size := by have := hB.size; first | exact this | simpa using this
          apply wp_region_Q 10 [0, 1, 3, 7, 15, 31, 63, 127, 255, 511] [] [_, _, _, _, _, _, _, _, _, _] (fun p L w' => wr.heap.size ≤ w'.heap.size ∧ Below w.heap.size w w' ∧ blk w' w.heap.size (qfn q) 23 ∧ blk w' (w.heap.size + 1) (vfn b) 31) _ [(0, 23), (1, 24), (2, 25), (3, 26), (4, 27), (5, 28), (6, 29), (7, 30), (8, 31), (9, 32)] [0, 1, 2, 3, 4, 5, 6, 7, 8, 9]
          case hn => rfl
          case hB => kernel_rfl
          case hds => kernel_rfl
          case hA => (intro p; simp only [putsD, Act.put, List.setIfInBounds_toArray, List.set_cons_zero, List.set_cons_succ, List.getD_cons_zero, List.getD_cons_succ]; exact rfl)
          case h0 => exact fun p => ⟨Nat.le_refl _, hB, v, z⟩
          case hmore => exact fun p L w1 w2 ⟨hsz, hB, v, z⟩ hm => ⟨Nat.le_trans hsz hm.size, hB.trans (hm.mono (Nat.le_trans hW0 hsz)), v.below hm v.lt, z.below hm z.lt⟩
          case hs =>
            intro more
            iterate 2 (refine stepV _ rfl rfl (fun _ _ _ h => h) (by intros; go_simp; exact ⟨rfl, rfl⟩) ?_)
            refine stepV 2 rfl rfl (fun _ _ _ h => h) ?_ ?_
            · rintro p L w1 ⟨hsz, hB, v, z⟩ hk
              have hc : w1.cell? ⟨w.heap.size + 1, k, none⟩ = some (.int .i64 (b k)) := z.cellIs (vfn_get _ hkn)
              go_simp
              exact ⟨rfl, rfl⟩
            iterate 2 (refine stepV _ rfl rfl (fun _ _ _ h => h) (by intros; go_simp; exact ⟨rfl, rfl⟩) ?_)
            iterate 4 (refine AllI.cons (stepI_off _ rfl (fun p => rfl) (fun p => rfl) (fun _ _ _ h => h)) ?_)
            refine stepV _ rfl rfl (fun _ _ _ h => h) (by intros; go_simp; exact ⟨rfl, rfl⟩) ?_
            exact AllI.nil
          case hV0 => exact fun p q => AllI.nil
          case he =>
          clear hB v z
          rintro p wrr ⟨hsz, hB, v, z⟩
          clear lt_v
          clear lt_z
          clear hsz hW0
          go_wp2_with (first
            | (refine wpList_load_rowG ?hw _ _ rfl _ rfl _ _ _ _ v Try.underlying23 rfl ?hi ?_; (case hw => (first | rfl | (simp [Region.wanted, yielded]; done))); (case hi => (first | kernel_rfl | (rw [qfn_size]; kernel_rfl))))
            | (refine wpList_load_rowG ?hw _ _ rfl _ rfl _ _ _ _ z Try.underlying31 rfl ?hi ?_; (case hw => (first | rfl | (simp [Region.wanted, yielded]; done))); (case hi => (first | kernel_rfl | (rw [vfn_size]; kernel_rfl))))
            | (go_at_call 37; with_reducible refine (AW.out _).mono ?_; rintro e w9 ⟨rfl, hb⟩; replace hB := hB.trans (hb.mono hB.size); replace v := v.below hb v.lt; replace z := z.below hb z.lt; clear hb))
          go_ret
          exact ⟨rfl, hB⟩
        · have e1 : decide ((262144 : Int) < b k) = false := decide_eq_false (by omega)
          have e2 : decide (b k < -262144) = true := decide_eq_true (by omega)
          clear hb hb1
          go_upto_region 4 with (fail)
          have lt_v := v.lt
          have lt_z := z.lt
          have hW0 : w.heap.size ≤ wr.heap.size := by have := hB.size; first | exact this | simpa using this
          apply wp_region_Q 10 [0, 1, 3, 7, 15, 31, 63, 127, 255, 511] [] [_, _, _, _, _, _, _, _, _, _] (fun p L w' => wr.heap.size ≤ w'.heap.size ∧ Below w.heap.size w w' ∧ blk w' w.heap.size (qfn q) 23 ∧ blk w' (w.heap.size + 1) (vfn b) 31) _ [(0, 23), (1, 24), (2, 25), (3, 26), (4, 27), (5, 28), (6, 29), (7, 30), (8, 31), (9, 32)] [0, 1, 2, 3, 4, 5, 6, 7, 8, 9]
          case hn => rfl
          case hB => kernel_rfl
          case hds => kernel_rfl
          case hA => (intro p; simp only [putsD, Act.put, List.setIfInBounds_toArray, List.set_cons_zero, List.set_cons_succ, List.getD_cons_zero, List.getD_cons_succ]; exact rfl)
          case h0 => exact fun p => ⟨Nat.le_refl _, hB, v, z⟩
          case hmore => exact fun p L w1 w2 ⟨hsz, hB, v, z⟩ hm => ⟨Nat.le_trans hsz hm.size, hB.trans (hm.mono (Nat.le_trans hW0 hsz)), v.below hm v.lt, z.below hm z.lt⟩
          case hs =>
            intro more
            iterate 2 (refine stepV _ rfl rfl (fun _ _ _ h => h) (by intros; go_simp; exact ⟨rfl, rfl⟩) ?_)
            refine stepV 2 rfl rfl (fun _ _ _ h => h) ?_ ?_
            · rintro p L w1 ⟨hsz, hB, v, z⟩ hk
              have hc : w1.cell? ⟨w.heap.size + 1, k, none⟩ = some (.int .i64 (b k)) := z.cellIs (vfn_get _ hkn)
              go_simp
              exact ⟨rfl, rfl⟩
            iterate 2 (refine stepV _ rfl rfl (fun _ _ _ h => h) (by intros; go_simp; exact ⟨rfl, rfl⟩) ?_)
            iterate 2 (refine stepVg _ rfl (fun p => (by first | rfl | (simp [Region.wanted, yielded]; done))) (fun _ _ _ h => h) (by intros; go_simp; exact ⟨rfl, rfl⟩) ?_)
            refine stepVg 7 rfl (fun p => (by first | rfl | (simp [Region.wanted, yielded]; done))) (fun _ _ _ h => h) ?_ ?_
            · rintro p L w1 ⟨hsz, hB, v, z⟩ hk
              have hc : w1.cell? ⟨w.heap.size + 1, k, none⟩ = some (.int .i64 (b k)) := z.cellIs (vfn_get _ hkn)
              go_simp
              exact ⟨rfl, rfl⟩
            refine stepVg _ rfl (fun p => (by first | rfl | (simp [Region.wanted, yielded]; done))) (fun _ _ _ h => h) (by intros; go_simp; exact ⟨rfl, rfl⟩) ?_
            refine stepV _ rfl rfl (fun _ _ _ h => h) (by intros; go_simp; exact ⟨rfl, rfl⟩) ?_
            exact AllI.nil
          case hV0 => exact fun p q => AllI.nil
          case he =>
          clear hB v z
          rintro p wrr ⟨hsz, hB, v, z⟩
          clear lt_v
          clear lt_z
          clear hsz hW0
          go_wp2_with (first
            | (refine wpList_load_rowG ?hw _ _ rfl _ rfl _ _ _ _ v Try.underlying23 rfl ?hi ?_; (case hw => (first | rfl | (simp [Region.wanted, yielded]; done))); (case hi => (first | kernel_rfl | (rw [qfn_size]; kernel_rfl))))
            | (refine wpList_load_rowG ?hw _ _ rfl _ rfl _ _ _ _ z Try.underlying31 rfl ?hi ?_; (case hw => (first | rfl | (simp [Region.wanted, yielded]; done))); (case hi => (first | kernel_rfl | (rw [vfn_size]; kernel_rfl))))
            | (go_at_call 37; with_reducible refine (AW.out _).mono ?_; rintro e w9 ⟨rfl, hb⟩; replace hB := hB.trans (hb.mono hB.size); replace v := v.below hb v.lt; replace z := z.below hb z.lt; clear hb))
          go_ret
          exact ⟨rfl, hB⟩
    · obtain rfl : k = 3 := by omega
      have hbo := HL.out
      have HST := Lib.hid (HS.out hbo)
      have hsm : smallB b 16777216 = true := small_of fun i hi => by have := hbo i hi; omega
      have NG := Lib.hid (fun w => newG_ok b 1099511627776 w hsm (by decide) (by decide))
      have hGI : GI (gyS b 1099511627776) := ⟨fun i hi => by
        have := hbo i hi
        rcases (show i = 0 ∨ i = 1 ∨ i = 2 by omega) with rfl | rfl | rfl <;> (show -16777216 ≤ b _ ∧ b _ ≤ 16777216) <;> omega, by show (1 : Int) ≤ 1099511627776; omega, by show (1099511627776 : Int) ≤ 1099511627776; omega⟩
      have okz : okV (fun _ => 0) = true := by decide
      have hpe : predE (rdS b) = 0 := rd_pred hbo
      replace hbo := Lib.hid hbo
      clear HL HS hsm
      go_upto_region 6 with (fail)
      have lt_v := v.lt
      have lt_z := z.lt
      have hW0 : w.heap.size ≤ wr.heap.size := by have := hB.size; first | exact this | simpa using this
      apply wp_region_Q 7 [0, 1, 3, 7, 15, 31, 63] [1] [_, (fun p => (fun b => .tuple #[.pointer (some ⟨b, 0, none⟩), .int .i64 0]) (p 1)), _, _, _, _, _] (fun p L w' => wr.heap.size ≤ w'.heap.size ∧ Below w.heap.size w w' ∧ blk w' w.heap.size (qfn q) 23 ∧ blk w' (w.heap.size + 1) (vfn b) 31 ∧ (L 1 = true → wr.heap.size ≤ p 1 ∧ blk w' (p 1) (fltc (q, fun _ => 0)) 160)) _ [(0, 35), (1, 36), (2, 34), (3, 37), (4, 38), (5, 6), (6, 7)] [0, 1, 2, 3, 4, 5, 6]
      case hn => rfl
      case hB => kernel_rfl
      case hds => kernel_rfl
      case hA => (intro p; simp only [putsD, Act.put, List.setIfInBounds_toArray, List.set_cons_zero, List.set_cons_succ, List.getD_cons_zero, List.getD_cons_succ]; exact rfl)
      case h0 => exact fun p => ⟨Nat.le_refl _, hB, v, z, fun h => absurd h (by decide)⟩
      case hmore => exact fun p L w1 w2 ⟨hsz, hB, v, z, h_f⟩ hm => ⟨Nat.le_trans hsz hm.size, hB.trans (hm.mono (Nat.le_trans hW0 hsz)), v.below hm v.lt, z.below hm z.lt, fun hl => ⟨(h_f hl).1, (h_f hl).2.below hm (h_f hl).2.lt⟩⟩
      case hs =>
        intro more
        refine stepV 0 rfl rfl (fun _ _ _ h => h) ?_ ?_
        · rintro p L w1 ⟨hsz, hB, v, z, h_f⟩ hk
          first | exact valR_row _ _ rfl _ rfl _ _ v _ Try.underlying23 rfl (by first | kernel_rfl | (rw [qfn_size]; kernel_rfl)) rfl | (have hc := v.cellIs (qfn_get _ (show 0 < 4 by omega)); go_simp; exact ⟨rfl, rfl⟩)
        refine AllI.cons ?_ ?_
        · refine stepI_new 1 rfl (fun p => rfl) rfl (fun b => .tuple #[.pointer (some ⟨b, 0, none⟩), .int .i64 0]) (fltc (q, fun _ => 0)) 160 (fun p => rfl) ?_ ?_
          · rintro p L w1 ⟨hsz, hB, v, z, h_f⟩ hk
            go_simp
            refine (NF.out _).mono ?_
            rintro e w2 ⟨b, rfl, hb, hle, hm⟩
            exact ⟨_, rfl, b, rfl, hb, hle, hm⟩
          rintro p L w1 w2 b ⟨hsz, hB, v, z, h_f⟩ hk hb hle hm
          refine ⟨Nat.le_trans hsz hm.size, hB.trans (hm.mono (Nat.le_trans hW0 hsz)), v.below hm v.lt, z.below hm z.lt, fun _ => ⟨Nat.le_trans hsz hle, ?_⟩⟩
          exact hb
        iterate 5 (refine stepV _ rfl rfl (fun _ _ _ h => h) (by intros; go_simp; exact ⟨rfl, rfl⟩) ?_)
        exact AllI.nil
      case hV0 =>
        intro p q
        refine AllI.cons ?_ ?_
        · skip
          iterate 7 (refine AllI.cons (by first | exact .inl rfl | (refine .inr ?_; simp only [List.getD_cons_zero, List.getD_cons_succ]; done) | exact .inr rfl) ?_)
          exact AllI.nil
        exact AllI.nil
      case he =>
      clear hB v z
      rintro p wrr ⟨hsz, hB, v, z, h_f⟩
      obtain ⟨le_f, f⟩ := h_f rfl
      clear h_f
      replace f : blk wrr (p 1) (fltc (q, fun _ => 0)) 160 := f
      have ne_v_f : w.heap.size ≠ p 1 := Nat.ne_of_lt (Nat.lt_of_lt_of_le lt_v le_f)
      have ne_z_f : (w.heap.size + 1) ≠ p 1 := Nat.ne_of_lt (Nat.lt_of_lt_of_le lt_z le_f)
      have ge_f : w.heap.size ≤ p 1 := Nat.le_trans hW0 le_f
      generalize p 1 = f_b at *
      clear lt_v
      clear lt_z
      clear hsz hW0
      clear NF
      go_upto_region 9 with (fail)
      have lt_v := v.lt
      have lt_z := z.lt
      have lt_f := f.lt
      have hW0 : w.heap.size ≤ wrr.heap.size := by have := hB.size; first | exact this | simpa using this
      apply wp_region_Q 7 [0, 1, 3, 7, 15, 31, 63] [1] [_, (fun p => (fun b => .tuple #[.pointer (some ⟨b, 0, none⟩), .int .i64 0]) (p 1)), _, _, _, _, _] (fun p L w' => wrr.heap.size ≤ w'.heap.size ∧ Below w.heap.size w w' ∧ blk w' w.heap.size (qfn q) 23 ∧ blk w' (w.heap.size + 1) (vfn b) 31 ∧ blk w' f_b (fltc (q, fun _ => 0)) 160 ∧ (L 1 = true → wrr.heap.size ≤ p 1 ∧ blk w' (p 1) (qfn (gyS b 1099511627776)) 163)) _ [(0, 47), (1, 48), (2, 46), (3, 49), (4, 50), (5, 8), (6, 9)] [0, 1, 2, 3, 4, 5, 6]
      case hn => rfl
      case hB => kernel_rfl
      case hds => kernel_rfl
      case hA => (intro p; simp only [putsD, Act.put, List.setIfInBounds_toArray, List.set_cons_zero, List.set_cons_succ, List.getD_cons_zero, List.getD_cons_succ]; exact rfl)
      case h0 => exact fun p => ⟨Nat.le_refl _, hB, v, z, f, fun h => absurd h (by decide)⟩
      case hmore => exact fun p L w1 w2 ⟨hsz, hB, v, z, f, h_gy⟩ hm => ⟨Nat.le_trans hsz hm.size, hB.trans (hm.mono (Nat.le_trans hW0 hsz)), v.below hm v.lt, z.below hm z.lt, f.below hm f.lt, fun hl => ⟨(h_gy hl).1, (h_gy hl).2.below hm (h_gy hl).2.lt⟩⟩
      case hs =>
        intro more
        refine stepV 0 rfl rfl (fun _ _ _ h => h) ?_ ?_
        · rintro p L w1 ⟨hsz, hB, v, z, f, h_gy⟩ hk
          first | exact valR_row _ _ rfl _ rfl _ _ z _ Try.underlying31 rfl (by first | kernel_rfl | (rw [vfn_size]; kernel_rfl)) rfl | (have hc := z.cellIs (vfn_get _ (show 0 < 3 by omega)); go_simp; exact ⟨rfl, rfl⟩)
        refine AllI.cons ?_ ?_
        · refine stepI_new 1 rfl (fun p => rfl) rfl (fun b => .tuple #[.pointer (some ⟨b, 0, none⟩), .int .i64 0]) (qfn (gyS b 1099511627776)) 163 (fun p => rfl) ?_ ?_
          · rintro p L w1 ⟨hsz, hB, v, z, f, h_gy⟩ hk
            go_simp
            refine (NG.out _).mono ?_
            rintro e w2 ⟨b, rfl, hb, hle, hm⟩
            exact ⟨_, rfl, b, rfl, hb, hle, hm⟩
          rintro p L w1 w2 b ⟨hsz, hB, v, z, f, h_gy⟩ hk hb hle hm
          refine ⟨Nat.le_trans hsz hm.size, hB.trans (hm.mono (Nat.le_trans hW0 hsz)), v.below hm v.lt, z.below hm z.lt, f.below hm f.lt, fun _ => ⟨Nat.le_trans hsz hle, ?_⟩⟩
          exact hb
        iterate 5 (refine stepV _ rfl rfl (fun _ _ _ h => h) (by intros; go_simp; exact ⟨rfl, rfl⟩) ?_)
        exact AllI.nil
      case hV0 =>
        intro p q
        refine AllI.cons ?_ ?_
        · skip
          iterate 7 (refine AllI.cons (by first | exact .inl rfl | (refine .inr ?_; simp only [List.getD_cons_zero, List.getD_cons_succ]; done) | exact .inr rfl) ?_)
          exact AllI.nil
        exact AllI.nil
      case he =>
      clear hB v z f
      rintro p wrrr ⟨hsz, hB, v, z, f, h_gy⟩
      obtain ⟨le_gy, gy⟩ := h_gy rfl
      clear h_gy
      replace gy : blk wrrr (p 1) (qfn (gyS b 1099511627776)) 163 := gy
      have ne_v_gy : w.heap.size ≠ p 1 := Nat.ne_of_lt (Nat.lt_of_lt_of_le lt_v le_gy)
      have ne_z_gy : (w.heap.size + 1) ≠ p 1 := Nat.ne_of_lt (Nat.lt_of_lt_of_le lt_z le_gy)
      have ne_f_gy : f_b ≠ p 1 := Nat.ne_of_lt (Nat.lt_of_lt_of_le lt_f le_gy)
      have ge_gy : w.heap.size ≤ p 1 := Nat.le_trans hW0 le_gy
      generalize p 1 = gy_b at *
      clear lt_v
      clear lt_z
      clear lt_f
      clear hsz hW0
      clear NG
      go_wp2_with (fail)
      go_loopg [10] 400 (fun g_ iv wr => ∃ K : Nat, g_ + K = 400 ∧ iv = .int .i64 K ∧ blk wr w.heap.size (qfn q) 23 ∧ blk wr (w.heap.size + 1) (vfn b) 31 ∧ blk wr f_b (fltc (stS q b K)) 160 ∧ blk wr gy_b (qfn (gyS b 1099511627776)) 163 ∧ Below w.heap.size w wr)
      case atStart => exact ⟨0, rfl, rfl, v, z, f, gy, hB⟩
      case round =>
        clear v z f gy hB
        obtain ⟨K, hK, rfl, v, z, f, gy, hB⟩ := hrel
        by_cases hKn : K < 400
        · have hdK : decide ((K : Int) < 400) = true := decide_eq_true (by omega)
          have hdK' : decide (K < 400) = true := decide_eq_true hKn
          have hwK : IntKind.i64.wrap ((K : Int) + 1) = ((K + 1 : Nat) : Int) := by rw [IntKind.wrap_i64]; omega
          have FQ := FS.out K
          have FP := FQ.pred (rdS b)
          have hst : stS q b (K + 1) = (corQ (predQ (stS q b K).1 (stS q b K).2 (rdS b)) q, corB (predQ (stS q b K).1 (stS q b K).2 (rdS b)) (stS q b K).2 q) := rfl
          have f' : blk wr f_b (fltc ((stS q b K).1, (stS q b K).2)) 160 := f
          have hbe : betE (predQ (stS q b K).1 (stS q b K).2 (rdS b)) q = 0 := bet_valid FP.v hv.out
          replace hst := Lib.hid hst
          generalize (stS q b K).1 = Q at *
          generalize (stS q b K).2 = B at *
          clear f
          have f := f'
          clear f'
          have RD := Lib.hid (fun w (hg : blk w gy_b (qfn (gyS b 1099511627776)) 163) => gread_ok (gyS b 1099511627776) (fun _ => 0) (fun _ => 0) gy_b w hg hGI okz okz (fun i _ => by show -4398046511104 ≤ (0 : Int) ∧ (0 : Int) ≤ 4398046511104; omega) (fun i _ => by show -4398046511104 ≤ (0 : Int) ∧ (0 : Int) ≤ 4398046511104; omega))
          have PD := Lib.hid (fun w (hg : blk w f_b (fltc (Q, B)) 160) => pred_any Q B (rdS b) f_b w hg FQ)
          rw [hpe] at PD
          have CO := Lib.hid (fun w (hg : blk w f_b (fltc (predQ Q B (rdS b), B)) 160) => cor_any (predQ Q B (rdS b)) B q f_b w hg FP hq.out)
          rw [hbe] at CO
          generalize hR : rdS b = R at *
          rw [show readF (gyS b 1099511627776) (fun _ => 0) (fun _ => 0) = R from hR] at RD
          replace hR := Lib.hid hR
          generalize predQ Q B R = Qp at *
          replace FQ := Lib.hid FQ
          replace FP := Lib.hid FP
          clear hbe
          go_upto_region 15 with (fail)
          have lt_v := v.lt
          have lt_z := z.lt
          have lt_f := f.lt
          have lt_gy := gy.lt
          have hW0 : w.heap.size ≤ wr.heap.size := by have := hB.size; first | exact this | simpa using this
          apply wp_region_Q 10 [0, 1, 3, 7, 15, 31, 63, 127, 255, 511] [7] [_, _, _, _, _, _, _, (fun p => .pointer (some ⟨p 7, 0, none⟩)), (fun _ => undef), _] (fun p L w' => wr.heap.size ≤ w'.heap.size ∧ Below w.heap.size w w' ∧ blk w' w.heap.size (qfn q) 23 ∧ blk w' (w.heap.size + 1) (vfn b) 31 ∧ blk w' f_b (fltc (Q, B)) 160 ∧ blk w' gy_b (qfn (gyS b 1099511627776)) 163 ∧ (L 7 = true → wr.heap.size ≤ p 7 ∧ blk w' (p 7) (bif L 8 then (vfn R) else (vfn fun _ => 0)) 31)) _ [(0, 66), (1, 67), (2, 68), (3, 69), (4, 65), (5, 70), (6, 71), (7, 11), (9, 12)] [0, 1, 2, 3, 4, 5, 6, 7, 8, 9]
          case hn => rfl
          case hB => kernel_rfl
          case hds => kernel_rfl
          case hA => (intro p; simp only [putsD, Act.put, List.setIfInBounds_toArray, List.set_cons_zero, List.set_cons_succ, List.getD_cons_zero, List.getD_cons_succ]; exact rfl)
          case h0 => exact fun p => ⟨Nat.le_refl _, hB, v, z, f, gy, fun h => absurd h (by decide)⟩
          case hmore => exact fun p L w1 w2 ⟨hsz, hB, v, z, f, gy, h_y⟩ hm => ⟨Nat.le_trans hsz hm.size, hB.trans (hm.mono (Nat.le_trans hW0 hsz)), v.below hm v.lt, z.below hm z.lt, f.below hm f.lt, gy.below hm gy.lt, fun hl => ⟨(h_y hl).1, (h_y hl).2.below hm (h_y hl).2.lt⟩⟩
          case hs =>
            intro more
            refine stepV _ rfl rfl (fun _ _ _ h => h) (by intros; go_simp; exact ⟨rfl, rfl⟩) ?_
            refine stepV 1 rfl rfl (fun _ _ _ h => h) ?_ ?_
            · intros; (try simp only [vfn, qfn]); go_simp; exact ⟨rfl, rfl⟩
            refine stepV 2 rfl rfl (fun _ _ _ h => h) ?_ ?_
            · intros; (try simp only [vfn, qfn]); go_simp; exact ⟨rfl, rfl⟩
            refine stepD 3 rfl (fun p => rfl) (fun _ _ _ h => h) more ?_ ?_
            · rintro p L w1 ⟨hsz, hB, v, z, f, gy, h_y⟩ hk
              have L8 : L 8 = false := hk.2.2 8 rfl
              go_simp
              rw [zero_vec]
              refine (RD.out _ gy).mono ?_
              rintro e w2 ⟨rfl, h2⟩
              first | exact ⟨rfl, h2⟩ | (subst h2; exact ⟨rfl, Below.refl _ _⟩)
            iterate 3 (refine stepV _ rfl rfl (fun _ _ _ h => h) (by intros; go_simp; exact ⟨rfl, rfl⟩) ?_)
            refine AllI.cons ?_ ?_
            · refine stepI_alloc 7 rfl (fun p => rfl) rfl (vfn fun _ => 0) 31 (fun p => rfl) ?_ ?_
              · intro p w1
                go_simp
                first | done | rfl | rw [zero_vec]
              rintro p L w1 ⟨hsz, hB, v, z, f, gy, h_y⟩ hk
              have L8 : L 8 = false := hk.2.2 8 rfl
              refine ⟨Nat.le_trans hsz (by simp), hB.alloc (Nat.le_trans (by first | exact hW0 | (have := hB.size; simp at this ⊢; omega)) hsz) _, v.alloc _, z.alloc _, f.alloc _, gy.alloc _, fun _ => ⟨hsz, ?_⟩⟩
              rw [show upL L 7 8 = false from L8]
              exact blk.new _ _ _
            refine AllI.cons ?_ ?_
            · refine stepI_store 8 rfl (fun p => rfl) (fun p => rfl) _ _ _ rfl (fun p => p 7) 0 (fun p => rfl) (fun p => (vfn R)) (fun p => rfl) (fun p => (vfn fun _ => 0)) (fun p => (vfn R)) 31 (fun p => over_v _ _) (fun p => by first | (rw [vfn_size, vfn_size]; decide) | simp [vfn_size, vfn_size]) (fun p => by rw [vfn_size]; kernel_rfl) (fun p => vfn_one _) ?_ ?_
              · rintro p L w1 ⟨hsz, hB, v, z, f, gy, h_y⟩ hk
                have L8 : L 8 = false := hk.1
                have hh := (h_y (hk.2.1 7 rfl)).2
                rw [L8] at hh
                try simp only [cond_true, cond_false] at hh
                exact hh
              · rintro p L w1 ⟨hsz, hB, v, z, f, gy, h_y⟩ hk
                have L8 : L 8 = false := hk.1
                skip
                have hp := h_y (hk.2.1 7 rfl)
                refine ⟨(by simpa using hsz), Below.setRow hB (by first | exact Nat.le_trans hW0 hp.1 | exact ge_y | omega | (have := hB.size; simp at this ⊢; omega)) _, v.rowOther (by first | exact Nat.ne_of_lt (Nat.lt_of_lt_of_le lt_v hp.1) | omega) _, z.rowOther (by first | exact Nat.ne_of_lt (Nat.lt_of_lt_of_le lt_z hp.1) | omega) _, f.rowOther (by first | exact Nat.ne_of_lt (Nat.lt_of_lt_of_le lt_f hp.1) | omega) _, gy.rowOther (by first | exact Nat.ne_of_lt (Nat.lt_of_lt_of_le lt_gy hp.1) | omega) _, fun _ => ⟨hp.1, ?_⟩⟩
                rw [show upL L 8 8 = true from rfl]
                exact hp.2.row _
            refine stepV _ rfl rfl (fun _ _ _ h => h) (by intros; go_simp; exact ⟨rfl, rfl⟩) ?_
            exact AllI.nil
          case hV0 =>
            intro p q
            refine AllI.cons ?_ ?_
            · skip
              iterate 10 (refine AllI.cons (by first | exact .inl rfl | (refine .inr ?_; simp only [List.getD_cons_zero, List.getD_cons_succ]; done) | exact .inr rfl) ?_)
              exact AllI.nil
            exact AllI.nil
          case he =>
          clear hB v z f gy
          rintro p wrr ⟨hsz, hB, v, z, f, gy, h_y⟩
          obtain ⟨le_y, y⟩ := h_y rfl
          clear h_y
          replace y : blk wrr (p 7) (vfn R) 31 := y
          have ne_v_y : w.heap.size ≠ p 7 := Nat.ne_of_lt (Nat.lt_of_lt_of_le lt_v le_y)
          have ne_z_y : (w.heap.size + 1) ≠ p 7 := Nat.ne_of_lt (Nat.lt_of_lt_of_le lt_z le_y)
          have ne_f_y : f_b ≠ p 7 := Nat.ne_of_lt (Nat.lt_of_lt_of_le lt_f le_y)
          have ne_gy_y : gy_b ≠ p 7 := Nat.ne_of_lt (Nat.lt_of_lt_of_le lt_gy le_y)
          have ge_y : w.heap.size ≤ p 7 := Nat.le_trans hW0 le_y
          generalize p 7 = y_b at *
          clear lt_v
          clear lt_z
          clear lt_f
          clear lt_gy
          clear hsz hW0
          clear RD
          go_upto_region 16 with (fail)
          have lt_v := v.lt
          have lt_z := z.lt
          have lt_f := f.lt
          have lt_gy := gy.lt
          have lt_y := y.lt
          have hW0 : w.heap.size ≤ wrr.heap.size := by have := hB.size; first | exact this | simpa using this
          apply wp_region_Q 14 [0, 1, 3, 7, 15, 31, 63, 127, 255, 511, 1023, 2047, 4095, 8191] [] [_, _, _, _, _, _, _, _, _, _, _, _, _, _] (fun p L w' => wrr.heap.size ≤ w'.heap.size ∧ Below w.heap.size w w' ∧ blk w' w.heap.size (qfn q) 23 ∧ blk w' (w.heap.size + 1) (vfn b) 31 ∧ blk w' f_b (bif L 11 then (fltc (corQ Qp q, corB Qp B q)) else (bif L 5 then (fltc (Qp, B)) else (fltc (Q, B)))) 160 ∧ blk w' gy_b (qfn (gyS b 1099511627776)) 163 ∧ blk w' y_b (vfn R) 31) _ [(0, 72), (1, 73), (2, 74), (3, 75), (4, 76), (5, 77), (6, 78), (7, 79), (8, 80), (9, 81), (10, 82), (11, 83), (12, 84), (13, 85)] [0, 1, 2, 3, 4, 5, 6, 7, 8, 9, 10, 11, 12, 13]
          case hn => rfl
          case hB => kernel_rfl
          case hds => kernel_rfl
          case hA => (intro p; simp only [putsD, Act.put, List.setIfInBounds_toArray, List.set_cons_zero, List.set_cons_succ, List.getD_cons_zero, List.getD_cons_succ]; exact rfl)
          case h0 => exact fun p => ⟨Nat.le_refl _, hB, v, z, f, gy, y⟩
          case hmore => exact fun p L w1 w2 ⟨hsz, hB, v, z, f, gy, y⟩ hm => ⟨Nat.le_trans hsz hm.size, hB.trans (hm.mono (Nat.le_trans hW0 hsz)), v.below hm v.lt, z.below hm z.lt, f.below hm f.lt, gy.below hm gy.lt, y.below hm y.lt⟩
          case hs =>
            intro more
            iterate 3 (refine stepV _ rfl rfl (fun _ _ _ h => h) (by intros; go_simp; exact ⟨rfl, rfl⟩) ?_)
            refine stepVg _ rfl (fun p => (by first | rfl | (simp [Region.wanted, yielded]; done))) (fun _ _ _ h => h) (by intros; go_simp; exact ⟨rfl, rfl⟩) ?_
            refine stepVg 4 rfl (fun p => (by first | rfl | (simp [Region.wanted, yielded]; done))) (fun _ _ _ h => h) ?_ ?_
            · rintro p L w1 ⟨hsz, hB, v, z, f, gy, y⟩ hk
              have L5 : L 5 = false := hk.2.2 5 rfl
              have L11 : L 11 = false := hk.2.2 11 rfl
              first | exact valR_row _ _ rfl _ rfl _ _ y _ Try.underlying31 rfl (by first | kernel_rfl | (rw [vfn_size]; kernel_rfl)) rfl | (have hc := y.cellIs (vfn_get _ (show 0 < 3 by omega)); go_simp; exact ⟨rfl, rfl⟩)
            refine AllI.cons ?_ ?_
            · refine stepI_mut 5 rfl (fun p => (by first | rfl | (simp [Region.wanted, yielded]; done))) (fun _ => f_b) (fun p => (fltc (Qp, B))) ?_ ?_
              · rintro p L w1 ⟨hsz, hB, v, z, f, gy, y⟩ hk
                have L5 : L 5 = false := hk.1
                have L11 : L 11 = false := hk.2.2 11 rfl
                rw [L5, L11] at f
                try simp only [cond_true, cond_false] at f
                go_simp
                refine (PD.out _ f).mono ?_
                rintro e w2 ⟨rfl, h2⟩
                exact ⟨rfl, h2⟩
              · rintro p L w1 w2 ⟨hsz, hB, v, z, f, gy, y⟩ hk hm
                have L5 : L 5 = false := hk.1
                have L11 : L 11 = false := hk.2.2 11 rfl
                refine ⟨Nat.le_trans hsz (by have := hm.size; simpa using this), (Below.setRow hB (by first | exact Nat.le_trans hW0 hp.1 | exact ge_f | omega | (have := hB.size; simp at this ⊢; omega)) _).trans (hm.mono (Nat.le_trans hW0 hsz)), (v.rowOther (by first | exact ne_v_f | exact Ne.symm ne_f_v | omega) _).below hm (by simpa using v.lt), (z.rowOther (by first | exact ne_z_f | exact Ne.symm ne_f_z | omega) _).below hm (by simpa using z.lt), ?_, (gy.rowOther (by first | exact ne_gy_f | exact Ne.symm ne_f_gy | omega) _).below hm (by simpa using gy.lt), (y.rowOther (by first | exact ne_y_f | exact Ne.symm ne_f_y | omega) _).below hm (by simpa using y.lt)⟩
                rw [show upL L 5 11 = false from L11, show upL L 5 5 = true from rfl]
                exact (f.row _).below hm (by simpa using f.lt)
            refine stepVg _ rfl (fun p => (by first | rfl | (simp [Region.wanted, yielded]; done))) (fun _ _ _ h => h) (by intros; go_simp; exact ⟨rfl, rfl⟩) ?_
            iterate 2 (refine stepV _ rfl rfl (fun _ _ _ h => h) (by intros; go_simp; exact ⟨rfl, rfl⟩) ?_)
            refine stepVg _ rfl (fun p => (by first | rfl | (simp [Region.wanted, yielded]; done))) (fun _ _ _ h => h) (by intros; go_simp; exact ⟨rfl, rfl⟩) ?_
            refine stepVg 10 rfl (fun p => (by first | rfl | (simp [Region.wanted, yielded]; done))) (fun _ _ _ h => h) ?_ ?_
            · rintro p L w1 ⟨hsz, hB, v, z, f, gy, y⟩ hk
              have L5 : L 5 = true := hk.2.1 5 rfl
              have L11 : L 11 = false := hk.2.2 11 rfl
              first | exact valR_row _ _ rfl _ rfl _ _ v _ Try.underlying23 rfl (by first | kernel_rfl | (rw [qfn_size]; kernel_rfl)) rfl | (have hc := v.cellIs (qfn_get _ (show 0 < 4 by omega)); go_simp; exact ⟨rfl, rfl⟩)
            refine AllI.cons ?_ ?_
            · refine stepI_mut 11 rfl (fun p => (by first | rfl | (simp [Region.wanted, yielded]; done))) (fun _ => f_b) (fun p => (fltc (corQ Qp q, corB Qp B q))) ?_ ?_
              · rintro p L w1 ⟨hsz, hB, v, z, f, gy, y⟩ hk
                have L5 : L 5 = true := hk.2.1 5 rfl
                have L11 : L 11 = false := hk.1
                rw [L5, L11] at f
                try simp only [cond_true, cond_false] at f
                go_simp
                refine (CO.out _ f).mono ?_
                rintro e w2 ⟨rfl, h2⟩
                exact ⟨rfl, h2⟩
              · rintro p L w1 w2 ⟨hsz, hB, v, z, f, gy, y⟩ hk hm
                have L5 : L 5 = true := hk.2.1 5 rfl
                have L11 : L 11 = false := hk.1
                refine ⟨Nat.le_trans hsz (by have := hm.size; simpa using this), (Below.setRow hB (by first | exact Nat.le_trans hW0 hp.1 | exact ge_f | omega | (have := hB.size; simp at this ⊢; omega)) _).trans (hm.mono (Nat.le_trans hW0 hsz)), (v.rowOther (by first | exact ne_v_f | exact Ne.symm ne_f_v | omega) _).below hm (by simpa using v.lt), (z.rowOther (by first | exact ne_z_f | exact Ne.symm ne_f_z | omega) _).below hm (by simpa using z.lt), ?_, (gy.rowOther (by first | exact ne_gy_f | exact Ne.symm ne_f_gy | omega) _).below hm (by simpa using gy.lt), (y.rowOther (by first | exact ne_y_f | exact Ne.symm ne_f_y | omega) _).below hm (by simpa using y.lt)⟩
                rw [show upL L 11 11 = true from rfl]
                exact (f.row _).below hm (by simpa using f.lt)
            refine stepVg _ rfl (fun p => (by first | rfl | (simp [Region.wanted, yielded]; done))) (fun _ _ _ h => h) (by intros; go_simp; exact ⟨rfl, rfl⟩) ?_
            refine stepV _ rfl rfl (fun _ _ _ h => h) (by intros; go_simp; exact ⟨rfl, rfl⟩) ?_
            exact AllI.nil
          case hV0 => exact fun p q => AllI.nil
          case he =>
          clear hB v z f gy y
          rintro p wrrr ⟨hsz, hB, v, z, f, gy, y⟩
          replace f : blk wrrr f_b (fltc (corQ Qp q, corB Qp B q)) 160 := f
          clear lt_v
          clear lt_z
          clear lt_f
          clear lt_gy
          clear lt_y
          clear hsz hW0
          clear PD CO
          rw [← hst.out] at f
          go_wp2_with (fail)
          go_roundg (400 - (K + 1))
          case rel => exact ⟨K + 1, by omega, rfl, v, z, f, gy, hB⟩
          case measure => omega
        · obtain rfl : K = 400 := by omega
          have hdK : decide (((400 : Nat) : Int) < 400) = false := by decide
          have FQ := FS.out 400
          have f' : blk wr f_b (fltc ((stS q b 400).1, (stS q b 400).2)) 160 := f
          have BE := Lib.hid (fun w => between_any (stS q b 400).1 q w FQ.i hq.out)
          rw [bet_valid FQ.v hv.out] at BE
          generalize (stS q b 400).1 = Q at *
          generalize (stS q b 400).2 = B at *
          clear f
          have f := f'
          clear f'
          have AT := Lib.hid (fun w (hg : blk w f_b (fltc (Q, B)) 160) => fattitude_any Q B f_b w hg FQ.nz)
          have BI := Lib.hid (fun w (hg : blk w f_b (fltc (Q, B)) 160) => fbias_any Q B f_b w hg FQ.nz)
          have NO := Lib.hid (fun w => vnorm_any (offF (betF Q q)) w)
          rw [HST.out.e] at NO
          have hn := HST.out.n
          have dn : decide ((512 : Int) < normV (offF (betF Q q))) = false := decide_eq_false (by omega)
          generalize normV (offF (betF Q q)) = nv at *
          have HB := Lib.hid HST.out.b
          have hbb := FQ.b
          clear hn HST FQ FS
          generalize hU : betF Q q = U at *
          replace hU := Lib.hid hU
          replace hbb := Lib.hid hbb
          go_upto_region 18 with (fail)
          have lt_v := v.lt
          have lt_z := z.lt
          have lt_f := f.lt
          have lt_gy := gy.lt
          have hW0 : w.heap.size ≤ wr.heap.size := by have := hB.size; first | exact this | simpa using this
          apply wp_region_I 10 [0, 1, 0, 7, 15, 31, 31, 0, 191, 511] [7] [_, _, _, _, _, _, _, (fun p => .pointer (some ⟨p 7, 0, none⟩)), (fun _ => undef), _] (fun p L w' => wr.heap.size ≤ w'.heap.size ∧ Below w.heap.size w w' ∧ blk w' w.heap.size (qfn q) 23 ∧ blk w' (w.heap.size + 1) (vfn b) 31 ∧ blk w' f_b (fltc (Q, B)) 160 ∧ blk w' gy_b (qfn (gyS b 1099511627776)) 163 ∧ (L 7 = true → wr.heap.size ≤ p 7 ∧ blk w' (p 7) (bif L 8 then (qfn U) else (qfn fun _ => 0)) 23)) _ [(0, 87), (1, 88), (2, 89), (3, 90), (4, 86), (5, 91), (6, 92), (7, 13), (9, 14)] [0, 1, 2, 3, 4, 5, 6, 7, 8, 9]
          case hn => rfl
          case hm => kernel_rfl
          case hB => kernel_rfl
          case hds => kernel_rfl
          case hA => (intro p; simp only [putsD, Act.put, List.setIfInBounds_toArray, List.set_cons_zero, List.set_cons_succ, List.getD_cons_zero, List.getD_cons_succ]; exact rfl)
          case h0 => exact fun p => ⟨Nat.le_refl _, hB.drew, v.drew, z.drew, f.drew, gy.drew, fun h => absurd h (by decide)⟩
          case hmore => exact fun p L w1 w2 ⟨hsz, hB, v, z, f, gy, h_le⟩ hm => ⟨Nat.le_trans hsz hm.size, hB.trans (hm.mono (Nat.le_trans hW0 hsz)), v.below hm v.lt, z.below hm z.lt, f.below hm f.lt, gy.below hm gy.lt, fun hl => ⟨(h_le hl).1, (h_le hl).2.below hm (h_le hl).2.lt⟩⟩
          case hs =>
            intro more
            refine stepV _ rfl rfl (fun _ _ _ h => h) (by intros; go_simp; exact ⟨rfl, rfl⟩) ?_
            refine stepD 1 rfl (fun p => rfl) (fun _ _ _ h => h) more ?_ ?_
            · rintro p L w1 ⟨hsz, hB, v, z, f, gy, h_le⟩ hk
              have L8 : L 8 = false := hk.2.2 8 rfl
              go_simp
              refine (AT.out _ f).mono ?_
              rintro e w2 ⟨rfl, h2⟩
              first | exact ⟨rfl, h2⟩ | (subst h2; exact ⟨rfl, Below.refl _ _⟩)
            refine stepV 2 rfl rfl (fun _ _ _ h => h) ?_ ?_
            · rintro p L w1 ⟨hsz, hB, v, z, f, gy, h_le⟩ hk
              have L8 : L 8 = false := hk.2.2 8 rfl
              first | exact valR_row _ _ rfl _ rfl _ _ v _ Try.underlying23 rfl (by first | kernel_rfl | (rw [qfn_size]; kernel_rfl)) rfl | (have hc := v.cellIs (qfn_get _ (show 0 < 4 by omega)); go_simp; exact ⟨rfl, rfl⟩)
            refine stepD 3 rfl (fun p => rfl) (fun _ _ _ h => h) more ?_ ?_
            · rintro p L w1 ⟨hsz, hB, v, z, f, gy, h_le⟩ hk
              go_simp
              refine (BE.out _).mono ?_
              rintro e w2 ⟨rfl, h2⟩
              first | exact ⟨rfl, h2⟩ | (subst h2; exact ⟨rfl, Below.refl _ _⟩)
            iterate 3 (refine stepV _ rfl rfl (fun _ _ _ h => h) (by intros; go_simp; exact ⟨rfl, rfl⟩) ?_)
            refine AllI.cons ?_ ?_
            · refine stepI_alloc 7 rfl (fun p => rfl) rfl (qfn fun _ => 0) 23 (fun p => rfl) ?_ ?_
              · intro p w1
                go_simp
                first | done | rfl | rw [zero_quat]
              rintro p L w1 ⟨hsz, hB, v, z, f, gy, h_le⟩ hk
              have L8 : L 8 = false := hk.2.2 8 rfl
              refine ⟨Nat.le_trans hsz (by simp), hB.alloc (Nat.le_trans (by first | exact hW0 | (have := hB.size; simp at this ⊢; omega)) hsz) _, v.alloc _, z.alloc _, f.alloc _, gy.alloc _, fun _ => ⟨hsz, ?_⟩⟩
              rw [show upL L 7 8 = false from L8]
              exact blk.new _ _ _
            refine AllI.cons ?_ ?_
            · refine stepI_store 8 rfl (fun p => rfl) (fun p => rfl) _ _ _ rfl (fun p => p 7) 0 (fun p => rfl) (fun p => (qfn U)) (fun p => rfl) (fun p => (qfn fun _ => 0)) (fun p => (qfn U)) 23 (fun p => over_qq _ _) (fun p => by first | (rw [qfn_size, qfn_size]; decide) | simp [qfn_size, qfn_size]) (fun p => by rw [qfn_size]; kernel_rfl) (fun p => qfn_one _) ?_ ?_
              · rintro p L w1 ⟨hsz, hB, v, z, f, gy, h_le⟩ hk
                have L8 : L 8 = false := hk.1
                have hh := (h_le (hk.2.1 7 rfl)).2
                rw [L8] at hh
                try simp only [cond_true, cond_false] at hh
                exact hh
              · rintro p L w1 ⟨hsz, hB, v, z, f, gy, h_le⟩ hk
                have L8 : L 8 = false := hk.1
                skip
                have hp := h_le (hk.2.1 7 rfl)
                refine ⟨(by simpa using hsz), Below.setRow hB (by first | exact Nat.le_trans hW0 hp.1 | exact ge_le | omega | (have := hB.size; simp at this ⊢; omega)) _, v.rowOther (by first | exact Nat.ne_of_lt (Nat.lt_of_lt_of_le lt_v hp.1) | omega) _, z.rowOther (by first | exact Nat.ne_of_lt (Nat.lt_of_lt_of_le lt_z hp.1) | omega) _, f.rowOther (by first | exact Nat.ne_of_lt (Nat.lt_of_lt_of_le lt_f hp.1) | omega) _, gy.rowOther (by first | exact Nat.ne_of_lt (Nat.lt_of_lt_of_le lt_gy hp.1) | omega) _, fun _ => ⟨hp.1, ?_⟩⟩
                rw [show upL L 8 8 = true from rfl]
                exact hp.2.row _
            refine stepV _ rfl rfl (fun _ _ _ h => h) (by intros; go_simp; exact ⟨rfl, rfl⟩) ?_
            exact AllI.nil
          case hV0 =>
            intro p q
            refine AllI.cons ?_ ?_
            · skip
              iterate 10 (refine AllI.cons (by first | exact .inl rfl | (refine .inr ?_; simp only [List.getD_cons_zero, List.getD_cons_succ]; done) | exact .inr rfl) ?_)
              exact AllI.nil
            exact AllI.nil
          case he =>
          clear hB v z f gy
          rintro p wrr ⟨hsz, hB, v, z, f, gy, h_le⟩
          obtain ⟨le_le, le⟩ := h_le rfl
          clear h_le
          replace le : blk wrr (p 7) (qfn U) 23 := le
          have ne_v_le : w.heap.size ≠ p 7 := Nat.ne_of_lt (Nat.lt_of_lt_of_le lt_v le_le)
          have ne_z_le : (w.heap.size + 1) ≠ p 7 := Nat.ne_of_lt (Nat.lt_of_lt_of_le lt_z le_le)
          have ne_f_le : f_b ≠ p 7 := Nat.ne_of_lt (Nat.lt_of_lt_of_le lt_f le_le)
          have ne_gy_le : gy_b ≠ p 7 := Nat.ne_of_lt (Nat.lt_of_lt_of_le lt_gy le_le)
          have ge_le : w.heap.size ≤ p 7 := Nat.le_trans hW0 le_le
          generalize p 7 = le_b at *
          clear lt_v
          clear lt_z
          clear lt_f
          clear lt_gy
          clear hsz hW0
          clear AT BE
          have cl1 : wrr.cell? ⟨le_b, 1, none⟩ = some (.int .i64 (U 1)) := le.cellIs (qfn_get _ (by omega))
          have cl2 : wrr.cell? ⟨le_b, 2, none⟩ = some (.int .i64 (U 2)) := le.cellIs (qfn_get _ (by omega))
          have cl3 : wrr.cell? ⟨le_b, 3, none⟩ = some (.int .i64 (U 3)) := le.cellIs (qfn_get _ (by omega))
          go_upto_region 22 with (first
            | (rw [off_cells]; (go_at_call 36; with_reducible refine (NO.out _).mono ?_; rintro e w7 ⟨rfl, hb⟩; replace hB := hB.trans (hb.mono hB.size); replace v := v.below hb v.lt; replace z := z.below hb z.lt; replace f := f.below hb f.lt; replace gy := gy.below hb gy.lt; replace le := le.below hb le.lt; clear hb)))
          clear cl1 cl2 cl3 dn NO
          have lt_v := v.lt
          have lt_z := z.lt
          have lt_f := f.lt
          have lt_gy := gy.lt
          have lt_le := le.lt
          have hW0 : w.heap.size ≤ w7.heap.size := by have := hB.size; first | exact this | simpa using this
          apply wp_region_Q 4 [0, 1, 3, 7] [2] [_, _, (fun p => .pointer (some ⟨p 2, 0, none⟩)), (fun _ => undef)] (fun p L w' => w7.heap.size ≤ w'.heap.size ∧ Below w.heap.size w w' ∧ blk w' w.heap.size (qfn q) 23 ∧ blk w' (w.heap.size + 1) (vfn b) 31 ∧ blk w' f_b (fltc (Q, B)) 160 ∧ blk w' gy_b (qfn (gyS b 1099511627776)) 163 ∧ blk w' le_b (qfn U) 23 ∧ (L 2 = true → w7.heap.size ≤ p 2 ∧ blk w' (p 2) (bif L 3 then (vfn B) else (vfn fun _ => 0)) 31)) _ [(0, 114), (1, 115), (2, 17)] [0, 1, 2, 3]
          case hn => rfl
          case hB => kernel_rfl
          case hds => kernel_rfl
          case hA => (intro p; simp only [putsD, Act.put, List.setIfInBounds_toArray, List.set_cons_zero, List.set_cons_succ, List.getD_cons_zero, List.getD_cons_succ]; exact rfl)
          case h0 => exact fun p => ⟨Nat.le_refl _, hB, v, z, f, gy, le, fun h => absurd h (by decide)⟩
          case hmore => exact fun p L w1 w2 ⟨hsz, hB, v, z, f, gy, le, h_d⟩ hm => ⟨Nat.le_trans hsz hm.size, hB.trans (hm.mono (Nat.le_trans hW0 hsz)), v.below hm v.lt, z.below hm z.lt, f.below hm f.lt, gy.below hm gy.lt, le.below hm le.lt, fun hl => ⟨(h_d hl).1, (h_d hl).2.below hm (h_d hl).2.lt⟩⟩
          case hs =>
            intro more
            refine stepV _ rfl rfl (fun _ _ _ h => h) (by intros; go_simp; exact ⟨rfl, rfl⟩) ?_
            refine stepD 1 rfl (fun p => rfl) (fun _ _ _ h => h) more ?_ ?_
            · rintro p L w1 ⟨hsz, hB, v, z, f, gy, le, h_d⟩ hk
              have L3 : L 3 = false := hk.2.2 3 rfl
              go_simp
              refine (BI.out _ f).mono ?_
              rintro e w2 ⟨rfl, h2⟩
              first | exact ⟨rfl, h2⟩ | (subst h2; exact ⟨rfl, Below.refl _ _⟩)
            refine AllI.cons ?_ ?_
            · refine stepI_alloc 2 rfl (fun p => rfl) rfl (vfn fun _ => 0) 31 (fun p => rfl) ?_ ?_
              · intro p w1
                go_simp
                first | done | rfl | rw [zero_vec]
              rintro p L w1 ⟨hsz, hB, v, z, f, gy, le, h_d⟩ hk
              have L3 : L 3 = false := hk.2.2 3 rfl
              refine ⟨Nat.le_trans hsz (by simp), hB.alloc (Nat.le_trans (by first | exact hW0 | (have := hB.size; simp at this ⊢; omega)) hsz) _, v.alloc _, z.alloc _, f.alloc _, gy.alloc _, le.alloc _, fun _ => ⟨hsz, ?_⟩⟩
              rw [show upL L 2 3 = false from L3]
              exact blk.new _ _ _
            refine AllI.cons ?_ ?_
            · refine stepI_store 3 rfl (fun p => rfl) (fun p => rfl) _ _ _ rfl (fun p => p 2) 0 (fun p => rfl) (fun p => (vfn B)) (fun p => rfl) (fun p => (vfn fun _ => 0)) (fun p => (vfn B)) 31 (fun p => over_v _ _) (fun p => by first | (rw [vfn_size, vfn_size]; decide) | simp [vfn_size, vfn_size]) (fun p => by rw [vfn_size]; kernel_rfl) (fun p => vfn_one _) ?_ ?_
              · rintro p L w1 ⟨hsz, hB, v, z, f, gy, le, h_d⟩ hk
                have L3 : L 3 = false := hk.1
                have hh := (h_d (hk.2.1 2 rfl)).2
                rw [L3] at hh
                try simp only [cond_true, cond_false] at hh
                exact hh
              · rintro p L w1 ⟨hsz, hB, v, z, f, gy, le, h_d⟩ hk
                have L3 : L 3 = false := hk.1
                skip
                have hp := h_d (hk.2.1 2 rfl)
                refine ⟨(by simpa using hsz), Below.setRow hB (by first | exact Nat.le_trans hW0 hp.1 | exact ge_d | omega | (have := hB.size; simp at this ⊢; omega)) _, v.rowOther (by first | exact Nat.ne_of_lt (Nat.lt_of_lt_of_le lt_v hp.1) | omega) _, z.rowOther (by first | exact Nat.ne_of_lt (Nat.lt_of_lt_of_le lt_z hp.1) | omega) _, f.rowOther (by first | exact Nat.ne_of_lt (Nat.lt_of_lt_of_le lt_f hp.1) | omega) _, gy.rowOther (by first | exact Nat.ne_of_lt (Nat.lt_of_lt_of_le lt_gy hp.1) | omega) _, le.rowOther (by first | exact Nat.ne_of_lt (Nat.lt_of_lt_of_le lt_le hp.1) | omega) _, fun _ => ⟨hp.1, ?_⟩⟩
                rw [show upL L 3 3 = true from rfl]
                exact hp.2.row _
            exact AllI.nil
          case hV0 =>
            intro p q
            refine AllI.cons ?_ ?_
            · skip
              iterate 4 (refine AllI.cons (by first | exact .inl rfl | (refine .inr ?_; simp only [List.getD_cons_zero, List.getD_cons_succ]; done) | exact .inr rfl) ?_)
              exact AllI.nil
            exact AllI.nil
          case he =>
          clear hB v z f gy le
          rintro p w7r ⟨hsz, hB, v, z, f, gy, le, h_d⟩
          obtain ⟨le_d, d⟩ := h_d rfl
          clear h_d
          replace d : blk w7r (p 2) (vfn B) 31 := d
          have ne_v_d : w.heap.size ≠ p 2 := Nat.ne_of_lt (Nat.lt_of_lt_of_le lt_v le_d)
          have ne_z_d : (w.heap.size + 1) ≠ p 2 := Nat.ne_of_lt (Nat.lt_of_lt_of_le lt_z le_d)
          have ne_f_d : f_b ≠ p 2 := Nat.ne_of_lt (Nat.lt_of_lt_of_le lt_f le_d)
          have ne_gy_d : gy_b ≠ p 2 := Nat.ne_of_lt (Nat.lt_of_lt_of_le lt_gy le_d)
          have ne_le_d : le_b ≠ p 2 := Nat.ne_of_lt (Nat.lt_of_lt_of_le lt_le le_d)
          have ge_d : w.heap.size ≤ p 2 := Nat.le_trans hW0 le_d
          generalize p 2 = d_b at *
          clear lt_v
          clear lt_z
          clear lt_f
          clear lt_gy
          clear lt_le
          clear hsz hW0
          clear BI
          go_wp2_with (fail)
          go_loopg [18] 3 (fun g_ iv wr => ∃ k : Nat, g_ + k = 3 ∧ iv = .int .i64 k ∧ blk wr w.heap.size (qfn q) 23 ∧ blk wr (w.heap.size + 1) (vfn b) 31 ∧ blk wr f_b (fltc (Q, B)) 160 ∧ blk wr gy_b (qfn (gyS b 1099511627776)) 163 ∧ blk wr le_b (qfn U) 23 ∧ blk wr d_b (vfn B) 31 ∧ Below w.heap.size w wr)
          case atStart => exact ⟨0, rfl, rfl, v, z, f, gy, le, d, hB⟩
          case round =>
            clear v z f gy le d hB
            obtain ⟨k, hk, rfl, v, z, f, gy, le, d, hB⟩ := hrel
            by_cases hkn : k < 3
            · have hdk : decide ((k : Int) < 3) = true := decide_eq_true (by omega)
              have hdk' : decide (k < 3) = true := decide_eq_true (by omega)
              have hk3 : (k : Int) < 3 := by omega
              have hw3 : IntKind.i64.wrap ((k : Int) + 1) = ((k + 1 : Nat) : Int) := by rw [IntKind.wrap_i64]; omega
              have hb := HB.out k hkn
              have hb2 := hbo.out k hkn
              have e1 : decide (b k + 512 < B k) = false := decide_eq_false (by omega)
              have e2 : decide (B k < b k - 512) = false := decide_eq_false (by omega)
              have hw1 : IntKind.i64.wrap (b k + 512) = b k + 512 := by rw [IntKind.wrap_i64]; omega
              have hw2 : IntKind.i64.wrap (b k - 512) = b k - 512 := by rw [IntKind.wrap_i64]; omega
              clear hb hb2
              go_upto_region 26 with (fail)
              have lt_v := v.lt
              have lt_z := z.lt
              have lt_f := f.lt
              have lt_gy := gy.lt
              have lt_le := le.lt
              have lt_d := d.lt
              have hW0 : w.heap.size ≤ wr.heap.size := by have := hB.size; first | exact this | simpa using this
              apply wp_region_I 18 [0, 1, 3, 0, 8, 24, 56, 127, 255, 511, 1023, 2047, 511, 4607, 12799, 29183, 65535, 131071] [] [_, _, _, _, _, _, _, _, _, _, _, _, _, _, _, _, _, _] (fun p L w' => wr.heap.size ≤ w'.heap.size ∧ Below w.heap.size w w' ∧ blk w' w.heap.size (qfn q) 23 ∧ blk w' (w.heap.size + 1) (vfn b) 31 ∧ blk w' f_b (fltc (Q, B)) 160 ∧ blk w' gy_b (qfn (gyS b 1099511627776)) 163 ∧ blk w' le_b (qfn U) 23 ∧ blk w' d_b (vfn B) 31) _ [(0, 120), (1, 121), (2, 122), (3, 123), (4, 124), (5, 125), (6, 126), (7, 127), (8, 128), (9, 129), (10, 130), (11, 131), (12, 132), (13, 133), (14, 134), (15, 135), (16, 136), (17, 137)] [0, 1, 2, 3, 4, 5, 6, 7, 8, 9, 10, 11, 12, 13, 14, 15, 16, 17]
              case hn => rfl
              case hm => kernel_rfl
              case hB => kernel_rfl
              case hds => kernel_rfl
              case hA => (intro p; simp only [putsD, Act.put, List.setIfInBounds_toArray, List.set_cons_zero, List.set_cons_succ, List.getD_cons_zero, List.getD_cons_succ]; exact rfl)
              case h0 => exact fun p => ⟨Nat.le_refl _, hB.drew, v.drew, z.drew, f.drew, gy.drew, le.drew, d.drew⟩
              case hmore => exact fun p L w1 w2 ⟨hsz, hB, v, z, f, gy, le, d⟩ hm => ⟨Nat.le_trans hsz hm.size, hB.trans (hm.mono (Nat.le_trans hW0 hsz)), v.below hm v.lt, z.below hm z.lt, f.below hm f.lt, gy.below hm gy.lt, le.below hm le.lt, d.below hm d.lt⟩
              case hs =>
                intro more
                iterate 2 (refine stepV _ rfl rfl (fun _ _ _ h => h) (by intros; go_simp; exact ⟨rfl, rfl⟩) ?_)
                refine stepV 2 rfl rfl (fun _ _ _ h => h) ?_ ?_
                · rintro p L w1 ⟨hsz, hB, v, z, f, gy, le, d⟩ hk
                  have hc : w1.cell? ⟨d_b, k, none⟩ = some (.int .i64 (B k)) := d.cellIs (vfn_get _ hkn)
                  go_simp
                  exact ⟨rfl, rfl⟩
                iterate 2 (refine stepV _ rfl rfl (fun _ _ _ h => h) (by intros; go_simp; exact ⟨rfl, rfl⟩) ?_)
                refine stepV 5 rfl rfl (fun _ _ _ h => h) ?_ ?_
                · rintro p L w1 ⟨hsz, hB, v, z, f, gy, le, d⟩ hk
                  have hc : w1.cell? ⟨w.heap.size + 1, k, none⟩ = some (.int .i64 (b k)) := z.cellIs (vfn_get _ hkn)
                  go_simp
                  exact ⟨rfl, rfl⟩
                iterate 3 (refine stepV _ rfl rfl (fun _ _ _ h => h) (by intros; go_simp; exact ⟨rfl, rfl⟩) ?_)
                iterate 2 (refine stepVg _ rfl (fun p => (by first | rfl | (simp [Region.wanted, yielded]; done))) (fun _ _ _ h => h) (by intros; go_simp; exact ⟨rfl, rfl⟩) ?_)
                refine stepVg 11 rfl (fun p => (by first | rfl | (simp [Region.wanted, yielded]; done))) (fun _ _ _ h => h) ?_ ?_
                · rintro p L w1 ⟨hsz, hB, v, z, f, gy, le, d⟩ hk
                  have hc : w1.cell? ⟨d_b, k, none⟩ = some (.int .i64 (B k)) := d.cellIs (vfn_get _ hkn)
                  go_simp
                  exact ⟨rfl, rfl⟩
                iterate 2 (refine stepVg _ rfl (fun p => (by first | rfl | (simp [Region.wanted, yielded]; done))) (fun _ _ _ h => h) (by intros; go_simp; exact ⟨rfl, rfl⟩) ?_)
                refine stepVg 14 rfl (fun p => (by first | rfl | (simp [Region.wanted, yielded]; done))) (fun _ _ _ h => h) ?_ ?_
                · rintro p L w1 ⟨hsz, hB, v, z, f, gy, le, d⟩ hk
                  have hc : w1.cell? ⟨w.heap.size + 1, k, none⟩ = some (.int .i64 (b k)) := z.cellIs (vfn_get _ hkn)
                  go_simp
                  exact ⟨rfl, rfl⟩
                iterate 2 (refine stepVg _ rfl (fun p => (by first | rfl | (simp [Region.wanted, yielded]; done))) (fun _ _ _ h => h) (by intros; go_simp; exact ⟨rfl, rfl⟩) ?_)
                refine stepV _ rfl rfl (fun _ _ _ h => h) (by intros; go_simp; exact ⟨rfl, rfl⟩) ?_
                exact AllI.nil
              case hV0 => exact fun p q => AllI.nil
              case he =>
              clear hB v z f gy le d
              rintro p wrr ⟨hsz, hB, v, z, f, gy, le, d⟩
              clear lt_v
              clear lt_z
              clear lt_f
              clear lt_gy
              clear lt_le
              clear lt_d
              clear hsz hW0
              go_wp2_with (fail)
              go_roundg (3 - (k + 1))
              case rel =>
                exact ⟨k + 1, by omega, rfl, v, z, f, gy, le, d, hB⟩
              case measure => omega
            · obtain rfl : k = 3 := by omega
              go_wp2_with (first
                | (go_at_call 37; with_reducible refine (AW.out _).mono ?_; rintro e w9 ⟨rfl, hb⟩; replace hB := hB.trans (hb.mono hB.size); replace v := v.below hb v.lt; replace z := z.below hb z.lt; replace f := f.below hb f.lt; replace gy := gy.below hb gy.lt; replace le := le.below hb le.lt; replace d := d.below hb d.lt; clear hb))
              go_ret
              exact ⟨rfl, hB⟩
end Go.Proofs.Ytkmelddejdikgaa
