/-
  Controls that are nil or were not made.
-/
import Derived.Test.YtjnocbjngojigaaStF
import Derived.Test.YtjnocbjngojigaaStP
set_option linter.unusedSimpArgs false
set_option linter.unusedVariables false
namespace Go.Proofs.Ytjnocbjngojigaa
open Go.RowKit PM Dt
def zst (_ : Unit) : Array Value := #[.int .i64 0, .int .i64 0, .int .i64 0, .int .i64 0, .int .i64 0, .int .i64 0, .int .i64 0, .int .i64 0, .int .i64 0, .int .i64 0, .bool false, .bool false]
def prowS (b : Nat) : Array Value := #[.pointer none, .pointer (some ⟨b, 0, none⟩)]
theorem betE_02 {f g : Nat → Int} (h : ¬ betE f g = 0) : betE f g = 2 := by
  unfold betE at h ⊢
  by_cases hc : (validQ f && validQ g) = true
  · rw [if_pos hc] at h; exact absurd rfl h
  · rw [if_neg hc]
def pvc (v : Value) : Array Value := #[v]
set_option maxRecDepth 100000 in
set_option maxHeartbeats 2000000 in
theorem tnoneZ_any (b : Nat) (w : World) (hg : blk w b (zst ()) 56) : Calls Try.prog 56 #[.pointer (some ⟨b, 0, none⟩)] w fun e w' => e = .returned (.bool true) ∧ w = w' := by
  have hc : w.cell? ⟨b, 11, none⟩ = some (.bool false) := hg.cellIs rfl
  clear hg
  go_enter Try.func56, Try.ntmps56
  go_wp2_with (fail)
  go_ret
  exact ⟨rfl, rfl⟩
set_option maxRecDepth 100000 in
set_option maxHeartbeats 2000000 in
theorem tcmdN (v : Value) (w : World) (hn : ∀ w', Below w.heap.size w w' → Calls Try.prog 56 #[v] w' fun e w2 => e = .returned (.bool true) ∧ w' = w2) : Calls Try.prog 21 #[v] w fun e w' => e = .returned (.agg (vfn (fun _ => 0))) ∧ Below w.heap.size w w' := by
  have NN := Lib.hid hn
  clear hn
  go_enter Try.func21, Try.ntmps21
  go_upto_region 1 with (fail)
  simp only [zero_vec]
  have r : blk (w.alloc (.cells (vfn fun _ => 0) 25)) w.heap.size (vfn fun _ => 0) 25 := blk.new _ _ _
  have hB : Below w.heap.size w (w.alloc (.cells (vfn fun _ => 0) 25)) := by go_grown
  generalize (w.alloc (.cells (vfn fun _ => 0) 25)) = w0 at *
  go_wp2_with (first
    | (go_at_call 56; with_reducible refine (NN.out _ hB).mono ?_; rintro e w9 ⟨rfl, rfl⟩)
    | (rw [zero_vec]; refine wpList_store_row rfl _ _ _ rfl _ rfl _ rfl _ _ r (by first | kernel_rfl | (rw [vfn_size]; kernel_rfl)) (by first | rfl | simp only [vfn_size]) (by first | exact vfn_one _ | rfl) ?_))
  refine bodyPost_ret (results_cell_row rfl _ _ _ _ _ _ _ rfl (r.row (vfn (fun _ => 0))) Try.underlying25 rfl (by first | kernel_rfl | (rw [vfn_size]; kernel_rfl))) rfl ?_
  refine ⟨?_, Below.setRow hB (by omega) _⟩
  rfl
set_option maxRecDepth 100000 in
set_option maxHeartbeats 2000000 in
theorem tresetN (v : Value) (w : World) (hn : ∀ w', Below w.heap.size w w' → Calls Try.prog 56 #[v] w' fun e w2 => e = .returned (.bool true) ∧ w' = w2) : Calls Try.prog 25 #[v] w fun e w' => e = .returned (.tuple #[]) ∧ Below w.heap.size w w' := by
  have NN := Lib.hid hn
  clear hn
  have hB : Below w.heap.size w w := Below.refl _ _
  go_enter Try.func25, Try.ntmps25
  go_wp2_with (first
    | (go_at_call 56; with_reducible refine (NN.out _ hB).mono ?_; rintro e w9 ⟨rfl, rfl⟩))
  go_end0
  exact ⟨rfl, hB⟩
set_option maxRecDepth 100000 in
set_option maxHeartbeats 2000000 in
theorem tstepN (v cv : Value) (V : SeT) (w : World) (hn : ∀ w', Below w.heap.size w w' → Calls Try.prog 56 #[v] w' fun e w2 => e = .returned (.bool true) ∧ w' = w2) : Calls Try.prog 57 #[v, .agg (sec V), cv] w fun e w' => e = .returned (.tuple #[.agg (qfn (fun _ => 0)), .int .i64 1]) ∧ Below w.heap.size w w' := by
  have NN := Lib.hid hn
  clear hn
  go_enter Try.func57, Try.ntmps57
  go_upto_region 1 with (fail)
  simp only [zero_spd]
  have vv : blk ((w.alloc (.cells (sec V) 46)).alloc (.cells (qfn fun _ => 0) 22)) w.heap.size (sec V) 46 := (blk.new _ _ _).alloc _
  have r : blk ((w.alloc (.cells (sec V) 46)).alloc (.cells (qfn fun _ => 0) 22)) (w.heap.size + 1) (qfn fun _ => 0) 22 := blk.new' (by simp)
  have hB : Below w.heap.size w ((w.alloc (.cells (sec V) 46)).alloc (.cells (qfn fun _ => 0) 22)) := by go_grown
  generalize ((w.alloc (.cells (sec V) 46)).alloc (.cells (qfn fun _ => 0) 22)) = w0 at *
  go_upto_region 2 with (first
    | (go_at_call 56; with_reducible refine (NN.out _ hB).mono ?_; rintro e w9 ⟨rfl, rfl⟩))
  have lt_vv := vv.lt
  have lt_r := r.lt
  have hW0 : w.heap.size ≤ w0.heap.size := by have := hB.size; first | exact this | simpa using this
  apply wp_region_Q 3 [0, 1, 3] [] [_, (fun _ => undef), _] (fun p L w' => w0.heap.size ≤ w'.heap.size ∧ Below w.heap.size w w' ∧ blk w' w.heap.size (sec V) 46 ∧ blk w' (w.heap.size + 1) (bif L 1 then (qfn (fun _ => 0)) else (qfn fun _ => 0)) 22) _ [(0, 17), (2, 7)] [0, 1, 2]
  case hn => rfl
  case hB => kernel_rfl
  case hds => kernel_rfl
  case hA => (intro p; simp only [putsD, Act.put, List.setIfInBounds_toArray, List.set_cons_zero, List.set_cons_succ, List.getD_cons_zero, List.getD_cons_succ]; exact rfl)
  case h0 => exact fun p => ⟨Nat.le_refl _, hB, vv, r⟩
  case hmore => exact fun p L w1 w2 ⟨hsz, hB, vv, r⟩ hm => ⟨Nat.le_trans hsz hm.size, hB.trans (hm.mono (Nat.le_trans hW0 hsz)), vv.below hm vv.lt, r.below hm r.lt⟩
  case hs =>
    intro more
    refine stepV 0 rfl rfl (fun _ _ _ h => h) ?_ ?_
    · intros; (try simp only [vfn, qfn]); go_simp; exact ⟨rfl, rfl⟩
    refine AllI.cons ?_ ?_
    · refine stepI_store 1 rfl (fun p => rfl) (fun p => rfl) _ _ _ rfl (fun _ => (w.heap.size + 1)) 0 (fun p => rfl) (fun p => (qfn (fun _ => 0))) (fun p => (congrArg Value.agg zero_spd)) (fun p => (qfn fun _ => 0)) (fun p => (qfn (fun _ => 0))) 22 (fun p => over_qq _ _) (fun p => by first | (rw [qfn_size, qfn_size]; decide) | simp [qfn_size, qfn_size]) (fun p => by rw [qfn_size]; kernel_rfl) (fun p => qfn_one _) ?_ ?_
      · rintro p L w1 ⟨hsz, hB, vv, r⟩ hk
        have L1 : L 1 = false := hk.1
        rw [L1] at r
        try simp only [cond_true, cond_false] at r
        exact r
      · rintro p L w1 ⟨hsz, hB, vv, r⟩ hk
        have L1 : L 1 = false := hk.1
        skip
        refine ⟨(by simpa using hsz), Below.setRow hB (by first | exact Nat.le_trans hW0 hp.1 | exact ge_r | omega | (have := hB.size; simp at this ⊢; omega)) _, vv.rowOther (by first | exact ne_vv_r | exact Ne.symm ne_r_vv | omega) _, ?_⟩
        rw [show upL L 1 1 = true from rfl]
        exact r.row _
    refine stepV _ rfl rfl (fun _ _ _ h => h) (by intros; go_simp; exact ⟨rfl, rfl⟩) ?_
    exact AllI.nil
  case hV0 => exact fun p q => AllI.nil
  case he =>
  clear hB vv r
  rintro p w0r ⟨hsz, hB, vv, r⟩
  replace r : blk w0r (w.heap.size + 1) (qfn (fun _ => 0)) 22 := r
  clear lt_vv
  clear lt_r
  clear hsz hW0
  go_wp2_with (fail)
  refine bodyPost_ret (results_vec rfl _ _ _ _ _ _ _ rfl r Try.underlying22 rfl (by first | kernel_rfl | (rw [qfn_size]; kernel_rfl))) rfl ?_
  refine ⟨?_, hB⟩
  rfl
set_option maxRecDepth 100000 in
set_option maxHeartbeats 4000000 in
theorem trestN (o : Option Addr) (V : SeT) (w : World) (hn : ∀ w', Below w.heap.size w w' → Calls Try.prog 56 #[.pointer o] w' fun e w2 => e = .returned (.bool true) ∧ w' = w2) : Calls Try.prog 22 #[.pointer o, .agg (sec V)] w fun e w' => e = .returned (.tuple #[.agg (qfn (fun _ => 0)), .int .i64 1]) ∧ Below w.heap.size w w' := by
  have ST := Lib.hid (fun w1 (hb : Below w.heap.size w w1) cv => tstepN (.pointer o) cv V w1 (fun w9 h9 => hn w9 (hb.trans (h9.mono hb.size))))
  have NN := Lib.hid hn
  clear hn
  go_enter Try.func22, Try.ntmps22
  go_upto_region 1 with (fail)
  simp only [show #[Value.pointer o] = pvc (.pointer o) from rfl, zero_spd]
  have pp : blk (((w.alloc (.cells (pvc (.pointer o)) 42)).alloc (.cells (sec V) 46)).alloc (.cells (qfn fun _ => 0) 22)) w.heap.size (pvc (.pointer o)) 42 := ((blk.new _ _ _).alloc _).alloc _
  have vv : blk (((w.alloc (.cells (pvc (.pointer o)) 42)).alloc (.cells (sec V) 46)).alloc (.cells (qfn fun _ => 0) 22)) (w.heap.size + 1) (sec V) 46 := (blk.new' (by simp)).alloc _
  have r : blk (((w.alloc (.cells (pvc (.pointer o)) 42)).alloc (.cells (sec V) 46)).alloc (.cells (qfn fun _ => 0) 22)) (w.heap.size + 2) (qfn fun _ => 0) 22 := blk.new' (by simp)
  have hB : Below w.heap.size w (((w.alloc (.cells (pvc (.pointer o)) 42)).alloc (.cells (sec V) 46)).alloc (.cells (qfn fun _ => 0) 22)) := by go_grown
  generalize (((w.alloc (.cells (pvc (.pointer o)) 42)).alloc (.cells (sec V) 46)).alloc (.cells (qfn fun _ => 0) 22)) = w0 at *
  have cp : w0.cell? ⟨w.heap.size, 0, none⟩ = some (.pointer o) := pp.cellIs rfl
  go_wp2_with (first | (refine wpList_load_rowG ?hw _ _ rfl _ rfl _ _ _ _ vv Try.underlying46 rfl ?hi ?_; (case hw => (first | rfl | (simp [Region.wanted, yielded]; done))); (case hi => (first | kernel_rfl | (rw [sec_size]; kernel_rfl)))) | (go_at_call 57; with_reducible refine (ST.out _ hB _).mono ?_; rintro e wz ⟨rfl, hb⟩; replace hB := hB.trans (hb.mono hB.size); replace pp := pp.below hb pp.lt; replace vv := vv.below hb vv.lt; replace r := r.below hb r.lt; clear hb) | (refine wpList_store_row rfl _ _ _ rfl _ rfl _ rfl _ _ r (by first | kernel_rfl | (rw [qfn_size]; kernel_rfl)) (by first | rfl | simp only [qfn_size]) (by first | exact qfn_one _ | rfl) ?_))
  refine bodyPost_ret (results_vec rfl _ _ _ _ _ _ _ rfl (r.row (qfn (fun _ => 0))) Try.underlying22 rfl (by first | kernel_rfl | (rw [qfn_size]; kernel_rfl))) rfl ?_
  refine ⟨?_, Below.setRow hB (by omega) _⟩
  rfl
set_option maxRecDepth 100000 in
set_option maxHeartbeats 4000000 in
theorem tsunN (o : Option Addr) (V : SeT) (w : World) (hn : ∀ w', Below w.heap.size w w' → Calls Try.prog 56 #[.pointer o] w' fun e w2 => e = .returned (.bool true) ∧ w' = w2) : Calls Try.prog 24 #[.pointer o, .agg (sec V)] w fun e w' => e = .returned (.tuple #[.agg (qfn (fun _ => 0)), .int .i64 1]) ∧ Below w.heap.size w w' := by
  have ST := Lib.hid (fun w1 (hb : Below w.heap.size w w1) cv => tstepN (.pointer o) cv V w1 (fun w9 h9 => hn w9 (hb.trans (h9.mono hb.size))))
  have NN := Lib.hid hn
  clear hn
  go_enter Try.func24, Try.ntmps24
  go_upto_region 1 with (fail)
  simp only [show #[Value.pointer o] = pvc (.pointer o) from rfl, zero_spd]
  have pp : blk (((w.alloc (.cells (pvc (.pointer o)) 42)).alloc (.cells (sec V) 46)).alloc (.cells (qfn fun _ => 0) 22)) w.heap.size (pvc (.pointer o)) 42 := ((blk.new _ _ _).alloc _).alloc _
  have vv : blk (((w.alloc (.cells (pvc (.pointer o)) 42)).alloc (.cells (sec V) 46)).alloc (.cells (qfn fun _ => 0) 22)) (w.heap.size + 1) (sec V) 46 := (blk.new' (by simp)).alloc _
  have r : blk (((w.alloc (.cells (pvc (.pointer o)) 42)).alloc (.cells (sec V) 46)).alloc (.cells (qfn fun _ => 0) 22)) (w.heap.size + 2) (qfn fun _ => 0) 22 := blk.new' (by simp)
  have hB : Below w.heap.size w (((w.alloc (.cells (pvc (.pointer o)) 42)).alloc (.cells (sec V) 46)).alloc (.cells (qfn fun _ => 0) 22)) := by go_grown
  generalize (((w.alloc (.cells (pvc (.pointer o)) 42)).alloc (.cells (sec V) 46)).alloc (.cells (qfn fun _ => 0) 22)) = w0 at *
  have cp : w0.cell? ⟨w.heap.size, 0, none⟩ = some (.pointer o) := pp.cellIs rfl
  go_wp2_with (first | (refine wpList_load_rowG ?hw _ _ rfl _ rfl _ _ _ _ vv Try.underlying46 rfl ?hi ?_; (case hw => (first | rfl | (simp [Region.wanted, yielded]; done))); (case hi => (first | kernel_rfl | (rw [sec_size]; kernel_rfl)))) | (go_at_call 57; with_reducible refine (ST.out _ hB _).mono ?_; rintro e wz ⟨rfl, hb⟩; replace hB := hB.trans (hb.mono hB.size); replace pp := pp.below hb pp.lt; replace vv := vv.below hb vv.lt; replace r := r.below hb r.lt; clear hb) | (refine wpList_store_row rfl _ _ _ rfl _ rfl _ rfl _ _ r (by first | kernel_rfl | (rw [qfn_size]; kernel_rfl)) (by first | rfl | simp only [qfn_size]) (by first | exact qfn_one _ | rfl) ?_))
  refine bodyPost_ret (results_vec rfl _ _ _ _ _ _ _ rfl (r.row (qfn (fun _ => 0))) Try.underlying22 rfl (by first | kernel_rfl | (rw [qfn_size]; kernel_rfl))) rfl ?_
  refine ⟨?_, Below.setRow hB (by omega) _⟩
  rfl
set_option maxRecDepth 100000 in
set_option maxHeartbeats 4000000 in
theorem tpointN (o : Option Addr) (V : SeT) (q : Nat → Int) (w : World) (hn : ∀ w', Below w.heap.size w w' → Calls Try.prog 56 #[.pointer o] w' fun e w2 => e = .returned (.bool true) ∧ w' = w2) (ha : ∀ i, i < 4 → I64 (V.att i)) (hq : ∀ i, i < 4 → I64 (q i)) : Calls Try.prog 23 #[.pointer o, .agg (sec V), .agg (qfn q)] w fun e w' => e = .returned (.tuple #[.agg (qfn (fun _ => 0)), .int .i64 1]) ∧ Below w.heap.size w w' := by
  have BE := Lib.hid (fun w => between_any V.att q w ha hq)
  clear ha hq
  have ST := Lib.hid (fun w1 (hb : Below w.heap.size w w1) cv => tstepN (.pointer o) cv V w1 (fun w9 h9 => hn w9 (hb.trans (h9.mono hb.size))))
  have NN := Lib.hid hn
  clear hn
  go_enter Try.func23, Try.ntmps23
  go_upto_region 1 with (fail)
  simp only [show #[Value.pointer o] = pvc (.pointer o) from rfl, zero_spd]
  have pp : blk ((((w.alloc (.cells (pvc (.pointer o)) 42)).alloc (.cells (sec V) 46)).alloc (.cells (qfn q) 23)).alloc (.cells (qfn fun _ => 0) 22)) w.heap.size (pvc (.pointer o)) 42 := (((blk.new _ _ _).alloc _).alloc _).alloc _
  have vv : blk ((((w.alloc (.cells (pvc (.pointer o)) 42)).alloc (.cells (sec V) 46)).alloc (.cells (qfn q) 23)).alloc (.cells (qfn fun _ => 0) 22)) (w.heap.size + 1) (sec V) 46 := ((blk.new' (by simp)).alloc _).alloc _
  have tq : blk ((((w.alloc (.cells (pvc (.pointer o)) 42)).alloc (.cells (sec V) 46)).alloc (.cells (qfn q) 23)).alloc (.cells (qfn fun _ => 0) 22)) (w.heap.size + 2) (qfn q) 23 := (blk.new' (by simp)).alloc _
  have r : blk ((((w.alloc (.cells (pvc (.pointer o)) 42)).alloc (.cells (sec V) 46)).alloc (.cells (qfn q) 23)).alloc (.cells (qfn fun _ => 0) 22)) (w.heap.size + 3) (qfn fun _ => 0) 22 := blk.new' (by simp)
  have hB : Below w.heap.size w ((((w.alloc (.cells (pvc (.pointer o)) 42)).alloc (.cells (sec V) 46)).alloc (.cells (qfn q) 23)).alloc (.cells (qfn fun _ => 0) 22)) := by go_grown
  generalize ((((w.alloc (.cells (pvc (.pointer o)) 42)).alloc (.cells (sec V) 46)).alloc (.cells (qfn q) 23)).alloc (.cells (qfn fun _ => 0) 22)) = w0 at *
  have cp : w0.cell? ⟨w.heap.size, 0, none⟩ = some (.pointer o) := pp.cellIs rfl
  by_cases hE : betE V.att q = 0
  · rw [hE] at BE
    clear hE
    generalize betF V.att q = Bt at *
    have lt_pp := pp.lt
    have lt_vv := vv.lt
    have lt_tq := tq.lt
    have lt_r := r.lt
    have hW0 : w.heap.size ≤ w0.heap.size := by have := hB.size; first | exact this | simpa using this
    apply wp_region_Q 10 [0, 1, 3, 7, 15, 31, 63, 127, 255, 511] [7] [_, _, _, _, _, _, _, (fun p => .pointer (some ⟨p 7, 0, none⟩)), (fun _ => undef), _] (fun p L w' => w0.heap.size ≤ w'.heap.size ∧ Below w.heap.size w w' ∧ blk w' w.heap.size (pvc (.pointer o)) 42 ∧ blk w' (w.heap.size + 1) (sec V) 46 ∧ blk w' (w.heap.size + 2) (qfn q) 23 ∧ blk w' (w.heap.size + 3) (qfn fun _ => 0) 22 ∧ (L 7 = true → w0.heap.size ≤ p 7 ∧ blk w' (p 7) (bif L 8 then (qfn Bt) else (qfn fun _ => 0)) 23)) _ [(0, 11), (1, 12), (2, 13), (3, 14), (4, 10), (5, 15), (6, 16), (7, 8), (9, 9)] [0, 1, 2, 3, 4, 5, 6, 7, 8, 9]
    case hn => rfl
    case hB => kernel_rfl
    case hds => kernel_rfl
    case hA => (intro p; simp only [putsD, Act.put, List.setIfInBounds_toArray, List.set_cons_zero, List.set_cons_succ, List.getD_cons_zero, List.getD_cons_succ]; exact rfl)
    case h0 => exact fun p => ⟨Nat.le_refl _, hB, pp, vv, tq, r, fun h => absurd h (by decide)⟩
    case hmore => exact fun p L w1 w2 ⟨hsz, hB, pp, vv, tq, r, h_lf⟩ hm => ⟨Nat.le_trans hsz hm.size, hB.trans (hm.mono (Nat.le_trans hW0 hsz)), pp.below hm pp.lt, vv.below hm vv.lt, tq.below hm tq.lt, r.below hm r.lt, fun hl => ⟨(h_lf hl).1, (h_lf hl).2.below hm (h_lf hl).2.lt⟩⟩
    case hs =>
      intro more
      refine stepV _ rfl rfl (fun _ _ _ h => h) (by intros; go_simp; exact ⟨rfl, rfl⟩) ?_
      refine stepV 1 rfl rfl (fun _ _ _ h => h) ?_ ?_
      · rintro p L w1 ⟨hsz, hB, pp, vv, tq, r, h_lf⟩ hk
        have L8 : L 8 = false := hk.2.2 8 rfl
        exact valR_part _ _ rfl _ 11 rfl _ _ vv (qfn V.att) (se_a V) _ Try.underlying23 rfl (by rw [qfn_size]; kernel_rfl) rfl
      refine stepV 2 rfl rfl (fun _ _ _ h => h) ?_ ?_
      · rintro p L w1 ⟨hsz, hB, pp, vv, tq, r, h_lf⟩ hk
        have L8 : L 8 = false := hk.2.2 8 rfl
        first | exact valR_row _ _ rfl _ rfl _ _ tq _ Try.underlying23 rfl (by first | kernel_rfl | (rw [qfn_size]; kernel_rfl)) rfl | (have hc := tq.cellIs (qfn_get _ (show 0 < 4 by omega)); go_simp; exact ⟨rfl, rfl⟩)
      refine stepD 3 rfl (fun p => rfl) (fun _ _ _ h => h) more ?_ ?_
      · rintro p L w1 ⟨hsz, hB, pp, vv, tq, r, h_lf⟩ hk
        go_simp
        refine (BE.out _).mono ?_
        rintro e w2 ⟨rfl, h2⟩
        first | exact ⟨rfl, h2⟩ | (subst h2; exact ⟨rfl, Below.refl _ _⟩)
      iterate 3 (refine stepV _ rfl rfl (fun _ _ _ h => h) (by intros; go_simp; exact ⟨rfl, rfl⟩) ?_)
      refine AllI.cons ?_ ?_
      · refine stepI_alloc 7 rfl (fun p => rfl) rfl (qfn fun _ => 0) 23 (fun p => rfl) ?_ ?_
        · intro p w1
          go_simp
          first | rfl | rw [zero_quat]
        rintro p L w1 ⟨hsz, hB, pp, vv, tq, r, h_lf⟩ hk
        have L8 : L 8 = false := hk.2.2 8 rfl
        refine ⟨Nat.le_trans hsz (by simp), hB.alloc (Nat.le_trans (by first | exact hW0 | (have := hB.size; simp at this ⊢; omega)) hsz) _, pp.alloc _, vv.alloc _, tq.alloc _, r.alloc _, fun _ => ⟨hsz, ?_⟩⟩
        rw [show upL L 7 8 = false from L8]
        exact blk.new _ _ _
      refine AllI.cons ?_ ?_
      · refine stepI_store 8 rfl (fun p => rfl) (fun p => rfl) _ _ _ rfl (fun p => p 7) 0 (fun p => rfl) (fun p => (qfn Bt)) (fun p => rfl) (fun p => (qfn fun _ => 0)) (fun p => (qfn Bt)) 23 (fun p => over_qq _ _) (fun p => by first | (rw [qfn_size, qfn_size]; decide) | simp [qfn_size, qfn_size]) (fun p => by rw [qfn_size]; kernel_rfl) (fun p => qfn_one _) ?_ ?_
        · rintro p L w1 ⟨hsz, hB, pp, vv, tq, r, h_lf⟩ hk
          have L8 : L 8 = false := hk.1
          have hh := (h_lf (hk.2.1 7 rfl)).2
          rw [L8] at hh
          try simp only [cond_true, cond_false] at hh
          exact hh
        · rintro p L w1 ⟨hsz, hB, pp, vv, tq, r, h_lf⟩ hk
          have L8 : L 8 = false := hk.1
          skip
          have hp := h_lf (hk.2.1 7 rfl)
          refine ⟨(by simpa using hsz), Below.setRow hB (by first | exact Nat.le_trans hW0 hp.1 | exact ge_lf | omega | (have := hB.size; simp at this ⊢; omega)) _, pp.rowOther (by first | exact Nat.ne_of_lt (Nat.lt_of_lt_of_le lt_pp hp.1) | omega) _, vv.rowOther (by first | exact Nat.ne_of_lt (Nat.lt_of_lt_of_le lt_vv hp.1) | omega) _, tq.rowOther (by first | exact Nat.ne_of_lt (Nat.lt_of_lt_of_le lt_tq hp.1) | omega) _, r.rowOther (by first | exact Nat.ne_of_lt (Nat.lt_of_lt_of_le lt_r hp.1) | omega) _, fun _ => ⟨hp.1, ?_⟩⟩
          rw [show upL L 8 8 = true from rfl]
          exact hp.2.row _
      refine stepV _ rfl rfl (fun _ _ _ h => h) (by intros; go_simp; exact ⟨rfl, rfl⟩) ?_
      exact AllI.nil
    case hV0 =>
      intro p q
      refine AllI.cons ?_ ?_
      · skip
        iterate 10 (refine AllI.cons (by first | exact .inl rfl | (refine .inr ?_; simp only [List.getD_cons_zero, List.getD_cons_succ]; done) | exact .inr rfl) ?_)
        exact AllI.nil
      exact AllI.nil
    case he =>
    clear hB pp vv tq r
    rintro p w0r ⟨hsz, hB, pp, vv, tq, r, h_lf⟩
    obtain ⟨le_lf, lf⟩ := h_lf rfl
    clear h_lf
    replace lf : blk w0r (p 7) (qfn Bt) 23 := lf
    have ne_pp_lf : w.heap.size ≠ p 7 := Nat.ne_of_lt (Nat.lt_of_lt_of_le lt_pp le_lf)
    have ne_vv_lf : (w.heap.size + 1) ≠ p 7 := Nat.ne_of_lt (Nat.lt_of_lt_of_le lt_vv le_lf)
    have ne_tq_lf : (w.heap.size + 2) ≠ p 7 := Nat.ne_of_lt (Nat.lt_of_lt_of_le lt_tq le_lf)
    have ne_r_lf : (w.heap.size + 3) ≠ p 7 := Nat.ne_of_lt (Nat.lt_of_lt_of_le lt_r le_lf)
    have ge_lf : w.heap.size ≤ p 7 := Nat.le_trans hW0 le_lf
    generalize p 7 = lf_b at *
    clear lt_pp
    clear lt_vv
    clear lt_tq
    clear lt_r
    clear hsz hW0
    have cp2 : w0r.cell? ⟨w.heap.size, 0, none⟩ = some (.pointer o) := pp.cellIs rfl
    go_wp2_with (first | (go_at_call 56; with_reducible refine (NN.out _ hB).mono ?_; rintro e w9 ⟨rfl, rfl⟩) | (refine wpList_load_rowG ?hw _ _ rfl _ rfl _ _ _ _ vv Try.underlying46 rfl ?hi ?_; (case hw => (first | rfl | (simp [Region.wanted, yielded]; done))); (case hi => (first | kernel_rfl | (rw [sec_size]; kernel_rfl)))) | (go_at_call 57; with_reducible refine (ST.out _ hB _).mono ?_; rintro e wz ⟨rfl, hb⟩; replace hB := hB.trans (hb.mono hB.size); replace pp := pp.below hb pp.lt; replace vv := vv.below hb vv.lt; replace tq := tq.below hb tq.lt; replace r := r.below hb r.lt; replace lf := lf.below hb lf.lt; clear hb) | (refine wpList_store_row rfl _ _ _ rfl _ rfl _ rfl _ _ r (by first | kernel_rfl | (rw [qfn_size]; kernel_rfl)) (by first | rfl | simp only [qfn_size]) (by first | exact qfn_one _ | rfl) ?_))
    refine bodyPost_ret (results_vec rfl _ _ _ _ _ _ _ rfl (r.row (qfn (fun _ => 0))) Try.underlying22 rfl (by first | kernel_rfl | (rw [qfn_size]; kernel_rfl))) rfl ?_
    refine ⟨?_, Below.setRow hB (by omega) _⟩
    rfl
  · have hE2 := betE_02 hE
    rw [hE2] at BE
    clear hE hE2
    generalize betF V.att q = Bt at *
    have lt_pp := pp.lt
    have lt_vv := vv.lt
    have lt_tq := tq.lt
    have lt_r := r.lt
    have hW0 : w.heap.size ≤ w0.heap.size := by have := hB.size; first | exact this | simpa using this
    apply wp_region_Q 10 [0, 1, 3, 7, 15, 31, 63, 127, 255, 511] [7] [_, _, _, _, _, _, _, (fun p => .pointer (some ⟨p 7, 0, none⟩)), (fun _ => undef), _] (fun p L w' => w0.heap.size ≤ w'.heap.size ∧ Below w.heap.size w w' ∧ blk w' w.heap.size (pvc (.pointer o)) 42 ∧ blk w' (w.heap.size + 1) (sec V) 46 ∧ blk w' (w.heap.size + 2) (qfn q) 23 ∧ blk w' (w.heap.size + 3) (qfn fun _ => 0) 22 ∧ (L 7 = true → w0.heap.size ≤ p 7 ∧ blk w' (p 7) (bif L 8 then (qfn Bt) else (qfn fun _ => 0)) 23)) _ [(0, 11), (1, 12), (2, 13), (3, 14), (4, 10), (5, 15), (6, 16), (7, 8), (9, 9)] [0, 1, 2, 3, 4, 5, 6, 7, 8, 9]
    case hn => rfl
    case hB => kernel_rfl
    case hds => kernel_rfl
    case hA => (intro p; simp only [putsD, Act.put, List.setIfInBounds_toArray, List.set_cons_zero, List.set_cons_succ, List.getD_cons_zero, List.getD_cons_succ]; exact rfl)
    case h0 => exact fun p => ⟨Nat.le_refl _, hB, pp, vv, tq, r, fun h => absurd h (by decide)⟩
    case hmore => exact fun p L w1 w2 ⟨hsz, hB, pp, vv, tq, r, h_lf⟩ hm => ⟨Nat.le_trans hsz hm.size, hB.trans (hm.mono (Nat.le_trans hW0 hsz)), pp.below hm pp.lt, vv.below hm vv.lt, tq.below hm tq.lt, r.below hm r.lt, fun hl => ⟨(h_lf hl).1, (h_lf hl).2.below hm (h_lf hl).2.lt⟩⟩
    case hs =>
      intro more
      refine stepV _ rfl rfl (fun _ _ _ h => h) (by intros; go_simp; exact ⟨rfl, rfl⟩) ?_
      refine stepV 1 rfl rfl (fun _ _ _ h => h) ?_ ?_
      · rintro p L w1 ⟨hsz, hB, pp, vv, tq, r, h_lf⟩ hk
        have L8 : L 8 = false := hk.2.2 8 rfl
        exact valR_part _ _ rfl _ 11 rfl _ _ vv (qfn V.att) (se_a V) _ Try.underlying23 rfl (by rw [qfn_size]; kernel_rfl) rfl
      refine stepV 2 rfl rfl (fun _ _ _ h => h) ?_ ?_
      · rintro p L w1 ⟨hsz, hB, pp, vv, tq, r, h_lf⟩ hk
        have L8 : L 8 = false := hk.2.2 8 rfl
        first | exact valR_row _ _ rfl _ rfl _ _ tq _ Try.underlying23 rfl (by first | kernel_rfl | (rw [qfn_size]; kernel_rfl)) rfl | (have hc := tq.cellIs (qfn_get _ (show 0 < 4 by omega)); go_simp; exact ⟨rfl, rfl⟩)
      refine stepD 3 rfl (fun p => rfl) (fun _ _ _ h => h) more ?_ ?_
      · rintro p L w1 ⟨hsz, hB, pp, vv, tq, r, h_lf⟩ hk
        go_simp
        refine (BE.out _).mono ?_
        rintro e w2 ⟨rfl, h2⟩
        first | exact ⟨rfl, h2⟩ | (subst h2; exact ⟨rfl, Below.refl _ _⟩)
      iterate 3 (refine stepV _ rfl rfl (fun _ _ _ h => h) (by intros; go_simp; exact ⟨rfl, rfl⟩) ?_)
      refine AllI.cons ?_ ?_
      · refine stepI_alloc 7 rfl (fun p => rfl) rfl (qfn fun _ => 0) 23 (fun p => rfl) ?_ ?_
        · intro p w1
          go_simp
          first | rfl | rw [zero_quat]
        rintro p L w1 ⟨hsz, hB, pp, vv, tq, r, h_lf⟩ hk
        have L8 : L 8 = false := hk.2.2 8 rfl
        refine ⟨Nat.le_trans hsz (by simp), hB.alloc (Nat.le_trans (by first | exact hW0 | (have := hB.size; simp at this ⊢; omega)) hsz) _, pp.alloc _, vv.alloc _, tq.alloc _, r.alloc _, fun _ => ⟨hsz, ?_⟩⟩
        rw [show upL L 7 8 = false from L8]
        exact blk.new _ _ _
      refine AllI.cons ?_ ?_
      · refine stepI_store 8 rfl (fun p => rfl) (fun p => rfl) _ _ _ rfl (fun p => p 7) 0 (fun p => rfl) (fun p => (qfn Bt)) (fun p => rfl) (fun p => (qfn fun _ => 0)) (fun p => (qfn Bt)) 23 (fun p => over_qq _ _) (fun p => by first | (rw [qfn_size, qfn_size]; decide) | simp [qfn_size, qfn_size]) (fun p => by rw [qfn_size]; kernel_rfl) (fun p => qfn_one _) ?_ ?_
        · rintro p L w1 ⟨hsz, hB, pp, vv, tq, r, h_lf⟩ hk
          have L8 : L 8 = false := hk.1
          have hh := (h_lf (hk.2.1 7 rfl)).2
          rw [L8] at hh
          try simp only [cond_true, cond_false] at hh
          exact hh
        · rintro p L w1 ⟨hsz, hB, pp, vv, tq, r, h_lf⟩ hk
          have L8 : L 8 = false := hk.1
          skip
          have hp := h_lf (hk.2.1 7 rfl)
          refine ⟨(by simpa using hsz), Below.setRow hB (by first | exact Nat.le_trans hW0 hp.1 | exact ge_lf | omega | (have := hB.size; simp at this ⊢; omega)) _, pp.rowOther (by first | exact Nat.ne_of_lt (Nat.lt_of_lt_of_le lt_pp hp.1) | omega) _, vv.rowOther (by first | exact Nat.ne_of_lt (Nat.lt_of_lt_of_le lt_vv hp.1) | omega) _, tq.rowOther (by first | exact Nat.ne_of_lt (Nat.lt_of_lt_of_le lt_tq hp.1) | omega) _, r.rowOther (by first | exact Nat.ne_of_lt (Nat.lt_of_lt_of_le lt_r hp.1) | omega) _, fun _ => ⟨hp.1, ?_⟩⟩
          rw [show upL L 8 8 = true from rfl]
          exact hp.2.row _
      refine stepV _ rfl rfl (fun _ _ _ h => h) (by intros; go_simp; exact ⟨rfl, rfl⟩) ?_
      exact AllI.nil
    case hV0 =>
      intro p q
      refine AllI.cons ?_ ?_
      · skip
        iterate 10 (refine AllI.cons (by first | exact .inl rfl | (refine .inr ?_; simp only [List.getD_cons_zero, List.getD_cons_succ]; done) | exact .inr rfl) ?_)
        exact AllI.nil
      exact AllI.nil
    case he =>
    clear hB pp vv tq r
    rintro p w0r ⟨hsz, hB, pp, vv, tq, r, h_lf⟩
    obtain ⟨le_lf, lf⟩ := h_lf rfl
    clear h_lf
    replace lf : blk w0r (p 7) (qfn Bt) 23 := lf
    have ne_pp_lf : w.heap.size ≠ p 7 := Nat.ne_of_lt (Nat.lt_of_lt_of_le lt_pp le_lf)
    have ne_vv_lf : (w.heap.size + 1) ≠ p 7 := Nat.ne_of_lt (Nat.lt_of_lt_of_le lt_vv le_lf)
    have ne_tq_lf : (w.heap.size + 2) ≠ p 7 := Nat.ne_of_lt (Nat.lt_of_lt_of_le lt_tq le_lf)
    have ne_r_lf : (w.heap.size + 3) ≠ p 7 := Nat.ne_of_lt (Nat.lt_of_lt_of_le lt_r le_lf)
    have ge_lf : w.heap.size ≤ p 7 := Nat.le_trans hW0 le_lf
    generalize p 7 = lf_b at *
    clear lt_pp
    clear lt_vv
    clear lt_tq
    clear lt_r
    clear hsz hW0
    have cp2 : w0r.cell? ⟨w.heap.size, 0, none⟩ = some (.pointer o) := pp.cellIs rfl
    go_wp2_with (first | (go_at_call 56; with_reducible refine (NN.out _ hB).mono ?_; rintro e w9 ⟨rfl, rfl⟩) | (refine wpList_load_rowG ?hw _ _ rfl _ rfl _ _ _ _ vv Try.underlying46 rfl ?hi ?_; (case hw => (first | rfl | (simp [Region.wanted, yielded]; done))); (case hi => (first | kernel_rfl | (rw [sec_size]; kernel_rfl)))) | (go_at_call 57; with_reducible refine (ST.out _ hB _).mono ?_; rintro e wz ⟨rfl, hb⟩; replace hB := hB.trans (hb.mono hB.size); replace pp := pp.below hb pp.lt; replace vv := vv.below hb vv.lt; replace tq := tq.below hb tq.lt; replace r := r.below hb r.lt; replace lf := lf.below hb lf.lt; clear hb) | (refine wpList_store_row rfl _ _ _ rfl _ rfl _ rfl _ _ r (by first | kernel_rfl | (rw [qfn_size]; kernel_rfl)) (by first | rfl | simp only [qfn_size]) (by first | exact qfn_one _ | rfl) ?_))
    refine bodyPost_ret (results_vec rfl _ _ _ _ _ _ _ rfl (r.row (qfn (fun _ => 0))) Try.underlying22 rfl (by first | kernel_rfl | (rw [qfn_size]; kernel_rfl))) rfl ?_
    refine ⟨?_, Below.setRow hB (by omega) _⟩
    rfl
set_option maxRecDepth 100000 in
set_option maxHeartbeats 8000000 in
theorem snones_any (yw : Int) (V : SeT) (tq : Nat → Int) (w : World) (ha : ∀ i, i < 4 → I64 (V.att i)) (hq : ∀ i, i < 4 → I64 (tq i)) : Calls Try.prog 6 #[.agg (a26c (yw, V, tq))] w fun e w' => e = .returned (.bool true) ∧ Below w.heap.size w w' := by
  replace ha := Lib.hid ha
  replace hq := Lib.hid hq
  have E0 : ∀ w, (Op.equalIn 10000 25 (.agg (vfn fun _ => 0)) (.agg #[.int .i64 0, .int .i64 0, .int .i64 0])).run Try.prog w = .ok true w := fun w => by rw [zero_vec]; exact vec_eq_self _ w
  have E2 : ∀ w, (Op.equalIn 10000 22 (.agg (qfn fun _ => 0)) (.agg #[.int .i64 0, .int .i64 0, .int .i64 0, .int .i64 0])).run Try.prog w = .ok true w := fun w => by rw [zero_spd, spdq_eq]; first | (congr 1; done) | (congr 1; simp)
  go_enter Try.func6, Try.ntmps6
  go_wp2_with (fail)
  simp only [show #[Value.int .i64 0, .int .i64 0, .int .i64 0, .int .i64 0, .int .i64 0, .int .i64 0, .int .i64 0, .int .i64 0, .int .i64 0, .int .i64 0, .bool false, .bool false] = zst () from rfl, show #[Value.pointer none, .pointer (some ⟨w.heap.size + 1, 0, none⟩)] = prowS (w.heap.size + 1) from rfl]
  have m : blk (((w.alloc (.cells (a26c (yw, V, tq)) 48)).alloc (.cells (zst ()) 56)).alloc (.cells (prowS (w.heap.size + 1)) 42)) w.heap.size (a26c (yw, V, tq)) 48 := ((blk.new _ _ _).alloc _).alloc _
  have z : blk (((w.alloc (.cells (a26c (yw, V, tq)) 48)).alloc (.cells (zst ()) 56)).alloc (.cells (prowS (w.heap.size + 1)) 42)) (w.heap.size + 1) (zst ()) 56 := (blk.new' (by simp)).alloc _
  have c : blk (((w.alloc (.cells (a26c (yw, V, tq)) 48)).alloc (.cells (zst ()) 56)).alloc (.cells (prowS (w.heap.size + 1)) 42)) (w.heap.size + 2) (prowS (w.heap.size + 1)) 42 := blk.new' (by simp)
  have hB : Below w.heap.size w (((w.alloc (.cells (a26c (yw, V, tq)) 48)).alloc (.cells (zst ()) 56)).alloc (.cells (prowS (w.heap.size + 1)) 42)) := by go_grown
  generalize (((w.alloc (.cells (a26c (yw, V, tq)) 48)).alloc (.cells (zst ()) 56)).alloc (.cells (prowS (w.heap.size + 1)) 42)) = w0 at *
  go_loopg [15] 2 (fun g_ iv wr => ∃ k : Nat, g_ + k = 2 ∧ iv = .int .i64 k ∧ blk wr w.heap.size (a26c (yw, V, tq)) 48 ∧ blk wr (w.heap.size + 1) (zst ()) 56 ∧ blk wr (w.heap.size + 2) (prowS (w.heap.size + 1)) 42 ∧ Below w.heap.size w wr)
  case atStart => exact ⟨0, rfl, rfl, m, z, c, hB⟩
  case round =>
    clear m z c hB
    obtain ⟨k, hk, rfl, m, z, c, hB⟩ := hrel
    by_cases hkn : k < 2
    · have hdk : decide ((k : Int) < 2) = true := decide_eq_true (by omega)
      have hdk' : decide (k < 2) = true := decide_eq_true (by omega)
      have hk3 : (k : Int) < 2 := by omega
      have hk0 : (0 : Int) ≤ k := by omega
      have hw3 : IntKind.i64.wrap ((k : Int) + 1) = ((k + 1 : Nat) : Int) := by rw [IntKind.wrap_i64]; omega
      obtain ⟨v, hcv, hvn⟩ : ∃ v, (prowS (w.heap.size + 1))[k]? = some (.pointer v) ∧ ∀ w', blk w' (w.heap.size + 1) (zst ()) 56 → Calls Try.prog 56 #[.pointer v] w' fun e w2 => e = .returned (.bool true) ∧ w' = w2 := by
        rcases (show k = 0 ∨ k = 1 by omega) with rfl | rfl
        · exact ⟨_, rfl, fun w' _ => tnoneN_any w'⟩
        · exact ⟨_, rfl, fun w' hz => tnoneZ_any _ w' hz⟩
      replace hvn := Lib.hid hvn
      go_upto_region 3 with (fail)
      have lt_m := m.lt
      have lt_z := z.lt
      have lt_c := c.lt
      have hW0 : w.heap.size ≤ wr.heap.size := by have := hB.size; first | exact this | simpa using this
      apply wp_region_Q 3 [0, 1, 3] [] [_, _, _] (fun p L w' => wr.heap.size ≤ w'.heap.size ∧ Below w.heap.size w w' ∧ blk w' w.heap.size (a26c (yw, V, tq)) 48 ∧ blk w' (w.heap.size + 1) (zst ()) 56 ∧ blk w' (w.heap.size + 2) (prowS (w.heap.size + 1)) 42) _ [(0, 17), (1, 18), (2, 4)] [0, 1, 2]
      case hn => rfl
      case hB => kernel_rfl
      case hds => kernel_rfl
      case hA => (intro p; simp only [putsD, Act.put, List.setIfInBounds_toArray, List.set_cons_zero, List.set_cons_succ, List.getD_cons_zero, List.getD_cons_succ]; exact rfl)
      case h0 => exact fun p => ⟨Nat.le_refl _, hB, m, z, c⟩
      case hmore => exact fun p L w1 w2 ⟨hsz, hB, m, z, c⟩ hm => ⟨Nat.le_trans hsz hm.size, hB.trans (hm.mono (Nat.le_trans hW0 hsz)), m.below hm m.lt, z.below hm z.lt, c.below hm c.lt⟩
      case hs =>
        intro more
        refine stepV _ rfl rfl (fun _ _ _ h => h) (by intros; go_simp; exact ⟨rfl, rfl⟩) ?_
        refine stepV 1 rfl rfl (fun _ _ _ h => h) ?_ ?_
        · rintro p L w1 ⟨hsz, hB, m, z, c⟩ hk
          have hc : w1.cell? ⟨w.heap.size + 1 + 1, k, none⟩ = some (.pointer v) := c.cellIs hcv
          go_simp
          exact ⟨rfl, rfl⟩
        refine stepV _ rfl rfl (fun _ _ _ h => h) (by intros; go_simp; exact ⟨rfl, rfl⟩) ?_
        exact AllI.nil
      case hV0 => exact fun p q => AllI.nil
      case he =>
      clear hB m z c
      rintro p wrr ⟨hsz, hB, m, z, c⟩
      clear lt_m
      clear lt_z
      clear lt_c
      clear hsz hW0
      go_upto_region 4 with (fail)
      have lt_m := m.lt
      have lt_z := z.lt
      have lt_c := c.lt
      have hW0 : w.heap.size ≤ wrr.heap.size := by have := hB.size; first | exact this | simpa using this
      apply wp_region_Q 10 [0, 1, 3, 7, 15, 31, 63, 127, 255, 511] [7] [_, _, _, _, _, _, _, (fun p => .pointer (some ⟨p 7, 0, none⟩)), (fun _ => undef), _] (fun p L w' => wrr.heap.size ≤ w'.heap.size ∧ Below w.heap.size w w' ∧ blk w' w.heap.size (a26c (yw, V, tq)) 48 ∧ blk w' (w.heap.size + 1) (zst ()) 56 ∧ blk w' (w.heap.size + 2) (prowS (w.heap.size + 1)) 42 ∧ (L 7 = true → wrr.heap.size ≤ p 7 ∧ blk w' (p 7) (bif L 8 then (qfn (fun _ => 0)) else (qfn fun _ => 0)) 22)) _ [(0, 20), (1, 21), (2, 22), (3, 23), (4, 19), (5, 24), (6, 25), (7, 5), (9, 6)] [0, 1, 2, 3, 4, 5, 6, 7, 8, 9]
      case hn => rfl
      case hB => kernel_rfl
      case hds => kernel_rfl
      case hA => (intro p; simp only [putsD, Act.put, List.setIfInBounds_toArray, List.set_cons_zero, List.set_cons_succ, List.getD_cons_zero, List.getD_cons_succ]; exact rfl)
      case h0 => exact fun p => ⟨Nat.le_refl _, hB, m, z, c, fun h => absurd h (by decide)⟩
      case hmore => exact fun p L w1 w2 ⟨hsz, hB, m, z, c, h_a⟩ hm => ⟨Nat.le_trans hsz hm.size, hB.trans (hm.mono (Nat.le_trans hW0 hsz)), m.below hm m.lt, z.below hm z.lt, c.below hm c.lt, fun hl => ⟨(h_a hl).1, (h_a hl).2.below hm (h_a hl).2.lt⟩⟩
      case hs =>
        intro more
        iterate 2 (refine stepV _ rfl rfl (fun _ _ _ h => h) (by intros; go_simp; exact ⟨rfl, rfl⟩) ?_)
        refine stepV 2 rfl rfl (fun _ _ _ h => h) ?_ ?_
        · rintro p L w1 ⟨hsz, hB, m, z, c, h_a⟩ hk
          have L8 : L 8 = false := hk.2.2 8 rfl
          exact valR_part _ _ rfl _ 1 rfl _ _ m (sec V) (a26_v yw V tq) _ Try.underlying46 rfl (by rw [sec_size]; kernel_rfl) rfl
        refine stepD 3 rfl (fun p => rfl) (fun _ _ _ h => h) more ?_ ?_
        · rintro p L w1 ⟨hsz, hB, m, z, c, h_a⟩ hk
          go_simp
          refine (trestN v V _ (fun w9 hb9 => hvn.out w9 (z.below hb9 z.lt))).mono ?_
          rintro e w2 ⟨rfl, h2⟩
          first | exact ⟨rfl, h2⟩ | (subst h2; exact ⟨rfl, Below.refl _ _⟩)
        iterate 3 (refine stepV _ rfl rfl (fun _ _ _ h => h) (by intros; go_simp; exact ⟨rfl, rfl⟩) ?_)
        refine AllI.cons ?_ ?_
        · refine stepI_alloc 7 rfl (fun p => rfl) rfl (qfn fun _ => 0) 22 (fun p => rfl) ?_ ?_
          · intro p w1
            go_simp
            first | rfl | rw [zero_spd]
          rintro p L w1 ⟨hsz, hB, m, z, c, h_a⟩ hk
          have L8 : L 8 = false := hk.2.2 8 rfl
          refine ⟨Nat.le_trans hsz (by simp), hB.alloc (Nat.le_trans (by first | exact hW0 | (have := hB.size; simp at this ⊢; omega)) hsz) _, m.alloc _, z.alloc _, c.alloc _, fun _ => ⟨hsz, ?_⟩⟩
          rw [show upL L 7 8 = false from L8]
          exact blk.new _ _ _
        refine AllI.cons ?_ ?_
        · refine stepI_store 8 rfl (fun p => rfl) (fun p => rfl) _ _ _ rfl (fun p => p 7) 0 (fun p => rfl) (fun p => (qfn (fun _ => 0))) (fun p => rfl) (fun p => (qfn fun _ => 0)) (fun p => (qfn (fun _ => 0))) 22 (fun p => over_qq _ _) (fun p => by first | (rw [qfn_size, qfn_size]; decide) | simp [qfn_size, qfn_size]) (fun p => by rw [qfn_size]; kernel_rfl) (fun p => qfn_one _) ?_ ?_
          · rintro p L w1 ⟨hsz, hB, m, z, c, h_a⟩ hk
            have L8 : L 8 = false := hk.1
            have hh := (h_a (hk.2.1 7 rfl)).2
            rw [L8] at hh
            try simp only [cond_true, cond_false] at hh
            exact hh
          · rintro p L w1 ⟨hsz, hB, m, z, c, h_a⟩ hk
            have L8 : L 8 = false := hk.1
            skip
            have hp := h_a (hk.2.1 7 rfl)
            refine ⟨(by simpa using hsz), Below.setRow hB (by first | exact Nat.le_trans hW0 hp.1 | exact ge_a | omega | (have := hB.size; simp at this ⊢; omega)) _, m.rowOther (by first | exact Nat.ne_of_lt (Nat.lt_of_lt_of_le lt_m hp.1) | omega) _, z.rowOther (by first | exact Nat.ne_of_lt (Nat.lt_of_lt_of_le lt_z hp.1) | omega) _, c.rowOther (by first | exact Nat.ne_of_lt (Nat.lt_of_lt_of_le lt_c hp.1) | omega) _, fun _ => ⟨hp.1, ?_⟩⟩
            rw [show upL L 8 8 = true from rfl]
            exact hp.2.row _
        refine stepV _ rfl rfl (fun _ _ _ h => h) (by intros; go_simp; exact ⟨rfl, rfl⟩) ?_
        exact AllI.nil
      case hV0 =>
        intro p q
        refine AllI.cons ?_ ?_
        · skip
          iterate 10 (refine AllI.cons (by first | exact .inl rfl | (refine .inr ?_; simp only [List.getD_cons_zero, List.getD_cons_succ]; done) | exact .inr rfl) ?_)
          exact AllI.nil
        exact AllI.nil
      case he =>
      clear hB m z c
      rintro p wrrr ⟨hsz, hB, m, z, c, h_a⟩
      obtain ⟨le_a, a⟩ := h_a rfl
      clear h_a
      replace a : blk wrrr (p 7) (qfn (fun _ => 0)) 22 := a
      have ne_m_a : w.heap.size ≠ p 7 := Nat.ne_of_lt (Nat.lt_of_lt_of_le lt_m le_a)
      have ne_z_a : (w.heap.size + 1) ≠ p 7 := Nat.ne_of_lt (Nat.lt_of_lt_of_le lt_z le_a)
      have ne_c_a : (w.heap.size + 2) ≠ p 7 := Nat.ne_of_lt (Nat.lt_of_lt_of_le lt_c le_a)
      have ge_a : w.heap.size ≤ p 7 := Nat.le_trans hW0 le_a
      generalize p 7 = a_b at *
      clear lt_m
      clear lt_z
      clear lt_c
      clear hsz hW0
      go_upto_region 5 with (fail)
      have lt_m := m.lt
      have lt_z := z.lt
      have lt_c := c.lt
      have lt_a := a.lt
      have hW0 : w.heap.size ≤ wrrr.heap.size := by have := hB.size; first | exact this | simpa using this
      apply wp_region_Q 10 [0, 1, 3, 7, 15, 31, 63, 127, 255, 511] [7] [_, _, _, _, _, _, _, (fun p => .pointer (some ⟨p 7, 0, none⟩)), (fun _ => undef), _] (fun p L w' => wrrr.heap.size ≤ w'.heap.size ∧ Below w.heap.size w w' ∧ blk w' w.heap.size (a26c (yw, V, tq)) 48 ∧ blk w' (w.heap.size + 1) (zst ()) 56 ∧ blk w' (w.heap.size + 2) (prowS (w.heap.size + 1)) 42 ∧ blk w' a_b (qfn (fun _ => 0)) 22 ∧ (L 7 = true → wrrr.heap.size ≤ p 7 ∧ blk w' (p 7) (bif L 8 then (qfn (fun _ => 0)) else (qfn fun _ => 0)) 22)) _ [(0, 27), (1, 28), (2, 29), (3, 30), (4, 26), (5, 31), (6, 32), (7, 7), (9, 8)] [0, 1, 2, 3, 4, 5, 6, 7, 8, 9]
      case hn => rfl
      case hB => kernel_rfl
      case hds => kernel_rfl
      case hA => (intro p; simp only [putsD, Act.put, List.setIfInBounds_toArray, List.set_cons_zero, List.set_cons_succ, List.getD_cons_zero, List.getD_cons_succ]; exact rfl)
      case h0 => exact fun p => ⟨Nat.le_refl _, hB, m, z, c, a, fun h => absurd h (by decide)⟩
      case hmore => exact fun p L w1 w2 ⟨hsz, hB, m, z, c, a, h_b⟩ hm => ⟨Nat.le_trans hsz hm.size, hB.trans (hm.mono (Nat.le_trans hW0 hsz)), m.below hm m.lt, z.below hm z.lt, c.below hm c.lt, a.below hm a.lt, fun hl => ⟨(h_b hl).1, (h_b hl).2.below hm (h_b hl).2.lt⟩⟩
      case hs =>
        intro more
        iterate 2 (refine stepV _ rfl rfl (fun _ _ _ h => h) (by intros; go_simp; exact ⟨rfl, rfl⟩) ?_)
        refine stepV 2 rfl rfl (fun _ _ _ h => h) ?_ ?_
        · rintro p L w1 ⟨hsz, hB, m, z, c, a, h_b⟩ hk
          have L8 : L 8 = false := hk.2.2 8 rfl
          exact valR_part _ _ rfl _ 1 rfl _ _ m (sec V) (a26_v yw V tq) _ Try.underlying46 rfl (by rw [sec_size]; kernel_rfl) rfl
        refine stepD 3 rfl (fun p => rfl) (fun _ _ _ h => h) more ?_ ?_
        · rintro p L w1 ⟨hsz, hB, m, z, c, a, h_b⟩ hk
          go_simp
          refine (tsunN v V _ (fun w9 hb9 => hvn.out w9 (z.below hb9 z.lt))).mono ?_
          rintro e w2 ⟨rfl, h2⟩
          first | exact ⟨rfl, h2⟩ | (subst h2; exact ⟨rfl, Below.refl _ _⟩)
        iterate 3 (refine stepV _ rfl rfl (fun _ _ _ h => h) (by intros; go_simp; exact ⟨rfl, rfl⟩) ?_)
        refine AllI.cons ?_ ?_
        · refine stepI_alloc 7 rfl (fun p => rfl) rfl (qfn fun _ => 0) 22 (fun p => rfl) ?_ ?_
          · intro p w1
            go_simp
            first | rfl | rw [zero_spd]
          rintro p L w1 ⟨hsz, hB, m, z, c, a, h_b⟩ hk
          have L8 : L 8 = false := hk.2.2 8 rfl
          refine ⟨Nat.le_trans hsz (by simp), hB.alloc (Nat.le_trans (by first | exact hW0 | (have := hB.size; simp at this ⊢; omega)) hsz) _, m.alloc _, z.alloc _, c.alloc _, a.alloc _, fun _ => ⟨hsz, ?_⟩⟩
          rw [show upL L 7 8 = false from L8]
          exact blk.new _ _ _
        refine AllI.cons ?_ ?_
        · refine stepI_store 8 rfl (fun p => rfl) (fun p => rfl) _ _ _ rfl (fun p => p 7) 0 (fun p => rfl) (fun p => (qfn (fun _ => 0))) (fun p => rfl) (fun p => (qfn fun _ => 0)) (fun p => (qfn (fun _ => 0))) 22 (fun p => over_qq _ _) (fun p => by first | (rw [qfn_size, qfn_size]; decide) | simp [qfn_size, qfn_size]) (fun p => by rw [qfn_size]; kernel_rfl) (fun p => qfn_one _) ?_ ?_
          · rintro p L w1 ⟨hsz, hB, m, z, c, a, h_b⟩ hk
            have L8 : L 8 = false := hk.1
            have hh := (h_b (hk.2.1 7 rfl)).2
            rw [L8] at hh
            try simp only [cond_true, cond_false] at hh
            exact hh
          · rintro p L w1 ⟨hsz, hB, m, z, c, a, h_b⟩ hk
            have L8 : L 8 = false := hk.1
            skip
            have hp := h_b (hk.2.1 7 rfl)
            refine ⟨(by simpa using hsz), Below.setRow hB (by first | exact Nat.le_trans hW0 hp.1 | exact ge_b | omega | (have := hB.size; simp at this ⊢; omega)) _, m.rowOther (by first | exact Nat.ne_of_lt (Nat.lt_of_lt_of_le lt_m hp.1) | omega) _, z.rowOther (by first | exact Nat.ne_of_lt (Nat.lt_of_lt_of_le lt_z hp.1) | omega) _, c.rowOther (by first | exact Nat.ne_of_lt (Nat.lt_of_lt_of_le lt_c hp.1) | omega) _, a.rowOther (by first | exact Nat.ne_of_lt (Nat.lt_of_lt_of_le lt_a hp.1) | omega) _, fun _ => ⟨hp.1, ?_⟩⟩
            rw [show upL L 8 8 = true from rfl]
            exact hp.2.row _
        refine stepV _ rfl rfl (fun _ _ _ h => h) (by intros; go_simp; exact ⟨rfl, rfl⟩) ?_
        exact AllI.nil
      case hV0 =>
        intro p q
        refine AllI.cons ?_ ?_
        · skip
          iterate 10 (refine AllI.cons (by first | exact .inl rfl | (refine .inr ?_; simp only [List.getD_cons_zero, List.getD_cons_succ]; done) | exact .inr rfl) ?_)
          exact AllI.nil
        exact AllI.nil
      case he =>
      clear hB m z c a
      rintro p wrrrr ⟨hsz, hB, m, z, c, a, h_b⟩
      obtain ⟨le_b, b⟩ := h_b rfl
      clear h_b
      replace b : blk wrrrr (p 7) (qfn (fun _ => 0)) 22 := b
      have ne_m_b : w.heap.size ≠ p 7 := Nat.ne_of_lt (Nat.lt_of_lt_of_le lt_m le_b)
      have ne_z_b : (w.heap.size + 1) ≠ p 7 := Nat.ne_of_lt (Nat.lt_of_lt_of_le lt_z le_b)
      have ne_c_b : (w.heap.size + 2) ≠ p 7 := Nat.ne_of_lt (Nat.lt_of_lt_of_le lt_c le_b)
      have ne_a_b : a_b ≠ p 7 := Nat.ne_of_lt (Nat.lt_of_lt_of_le lt_a le_b)
      have ge_b : w.heap.size ≤ p 7 := Nat.le_trans hW0 le_b
      generalize p 7 = b_b at *
      clear lt_m
      clear lt_z
      clear lt_c
      clear lt_a
      clear hsz hW0
      go_upto_region 6 with (fail)
      have lt_m := m.lt
      have lt_z := z.lt
      have lt_c := c.lt
      have lt_a := a.lt
      have lt_b := b.lt
      have hW0 : w.heap.size ≤ wrrrr.heap.size := by have := hB.size; first | exact this | simpa using this
      apply wp_region_Q 12 [0, 1, 3, 7, 15, 31, 63, 127, 255, 511, 1023, 2047] [9] [_, _, _, _, _, _, _, _, _, (fun p => .pointer (some ⟨p 9, 0, none⟩)), (fun _ => undef), _] (fun p L w' => wrrrr.heap.size ≤ w'.heap.size ∧ Below w.heap.size w w' ∧ blk w' w.heap.size (a26c (yw, V, tq)) 48 ∧ blk w' (w.heap.size + 1) (zst ()) 56 ∧ blk w' (w.heap.size + 2) (prowS (w.heap.size + 1)) 42 ∧ blk w' a_b (qfn (fun _ => 0)) 22 ∧ blk w' b_b (qfn (fun _ => 0)) 22 ∧ (L 9 = true → wrrrr.heap.size ≤ p 9 ∧ blk w' (p 9) (bif L 10 then (qfn (fun _ => 0)) else (qfn fun _ => 0)) 22)) _ [(0, 34), (1, 35), (2, 36), (3, 37), (4, 38), (5, 39), (6, 33), (7, 40), (8, 41), (9, 9), (11, 10)] [0, 1, 2, 3, 4, 5, 6, 7, 8, 9, 10, 11]
      case hn => rfl
      case hB => kernel_rfl
      case hds => kernel_rfl
      case hA => (intro p; simp only [putsD, Act.put, List.setIfInBounds_toArray, List.set_cons_zero, List.set_cons_succ, List.getD_cons_zero, List.getD_cons_succ]; exact rfl)
      case h0 => exact fun p => ⟨Nat.le_refl _, hB, m, z, c, a, b, fun h => absurd h (by decide)⟩
      case hmore => exact fun p L w1 w2 ⟨hsz, hB, m, z, c, a, b, h_d⟩ hm => ⟨Nat.le_trans hsz hm.size, hB.trans (hm.mono (Nat.le_trans hW0 hsz)), m.below hm m.lt, z.below hm z.lt, c.below hm c.lt, a.below hm a.lt, b.below hm b.lt, fun hl => ⟨(h_d hl).1, (h_d hl).2.below hm (h_d hl).2.lt⟩⟩
      case hs =>
        intro more
        iterate 2 (refine stepV _ rfl rfl (fun _ _ _ h => h) (by intros; go_simp; exact ⟨rfl, rfl⟩) ?_)
        refine stepV 2 rfl rfl (fun _ _ _ h => h) ?_ ?_
        · rintro p L w1 ⟨hsz, hB, m, z, c, a, b, h_d⟩ hk
          have L10 : L 10 = false := hk.2.2 10 rfl
          exact valR_part _ _ rfl _ 1 rfl _ _ m (sec V) (a26_v yw V tq) _ Try.underlying46 rfl (by rw [sec_size]; kernel_rfl) rfl
        refine stepV _ rfl rfl (fun _ _ _ h => h) (by intros; go_simp; exact ⟨rfl, rfl⟩) ?_
        refine stepV 4 rfl rfl (fun _ _ _ h => h) ?_ ?_
        · rintro p L w1 ⟨hsz, hB, m, z, c, a, b, h_d⟩ hk
          have L10 : L 10 = false := hk.2.2 10 rfl
          exact valR_part _ _ rfl _ 16 rfl _ _ m (qfn tq) (a26_q yw V tq) _ Try.underlying23 rfl (by rw [qfn_size]; kernel_rfl) rfl
        refine stepD 5 rfl (fun p => rfl) (fun _ _ _ h => h) more ?_ ?_
        · rintro p L w1 ⟨hsz, hB, m, z, c, a, b, h_d⟩ hk
          go_simp
          refine (tpointN v V tq _ (fun w9 hb9 => hvn.out w9 (z.below hb9 z.lt)) ha.out hq.out).mono ?_
          rintro e w2 ⟨rfl, h2⟩
          first | exact ⟨rfl, h2⟩ | (subst h2; exact ⟨rfl, Below.refl _ _⟩)
        iterate 3 (refine stepV _ rfl rfl (fun _ _ _ h => h) (by intros; go_simp; exact ⟨rfl, rfl⟩) ?_)
        refine AllI.cons ?_ ?_
        · refine stepI_alloc 9 rfl (fun p => rfl) rfl (qfn fun _ => 0) 22 (fun p => rfl) ?_ ?_
          · intro p w1
            go_simp
            first | rfl | rw [zero_spd]
          rintro p L w1 ⟨hsz, hB, m, z, c, a, b, h_d⟩ hk
          have L10 : L 10 = false := hk.2.2 10 rfl
          refine ⟨Nat.le_trans hsz (by simp), hB.alloc (Nat.le_trans (by first | exact hW0 | (have := hB.size; simp at this ⊢; omega)) hsz) _, m.alloc _, z.alloc _, c.alloc _, a.alloc _, b.alloc _, fun _ => ⟨hsz, ?_⟩⟩
          rw [show upL L 9 10 = false from L10]
          exact blk.new _ _ _
        refine AllI.cons ?_ ?_
        · refine stepI_store 10 rfl (fun p => rfl) (fun p => rfl) _ _ _ rfl (fun p => p 9) 0 (fun p => rfl) (fun p => (qfn (fun _ => 0))) (fun p => rfl) (fun p => (qfn fun _ => 0)) (fun p => (qfn (fun _ => 0))) 22 (fun p => over_qq _ _) (fun p => by first | (rw [qfn_size, qfn_size]; decide) | simp [qfn_size, qfn_size]) (fun p => by rw [qfn_size]; kernel_rfl) (fun p => qfn_one _) ?_ ?_
          · rintro p L w1 ⟨hsz, hB, m, z, c, a, b, h_d⟩ hk
            have L10 : L 10 = false := hk.1
            have hh := (h_d (hk.2.1 9 rfl)).2
            rw [L10] at hh
            try simp only [cond_true, cond_false] at hh
            exact hh
          · rintro p L w1 ⟨hsz, hB, m, z, c, a, b, h_d⟩ hk
            have L10 : L 10 = false := hk.1
            skip
            have hp := h_d (hk.2.1 9 rfl)
            refine ⟨(by simpa using hsz), Below.setRow hB (by first | exact Nat.le_trans hW0 hp.1 | exact ge_d | omega | (have := hB.size; simp at this ⊢; omega)) _, m.rowOther (by first | exact Nat.ne_of_lt (Nat.lt_of_lt_of_le lt_m hp.1) | omega) _, z.rowOther (by first | exact Nat.ne_of_lt (Nat.lt_of_lt_of_le lt_z hp.1) | omega) _, c.rowOther (by first | exact Nat.ne_of_lt (Nat.lt_of_lt_of_le lt_c hp.1) | omega) _, a.rowOther (by first | exact Nat.ne_of_lt (Nat.lt_of_lt_of_le lt_a hp.1) | omega) _, b.rowOther (by first | exact Nat.ne_of_lt (Nat.lt_of_lt_of_le lt_b hp.1) | omega) _, fun _ => ⟨hp.1, ?_⟩⟩
            rw [show upL L 10 10 = true from rfl]
            exact hp.2.row _
        refine stepV _ rfl rfl (fun _ _ _ h => h) (by intros; go_simp; exact ⟨rfl, rfl⟩) ?_
        exact AllI.nil
      case hV0 =>
        intro p q
        refine AllI.cons ?_ ?_
        · skip
          iterate 12 (refine AllI.cons (by first | exact .inl rfl | (refine .inr ?_; simp only [List.getD_cons_zero, List.getD_cons_succ]; done) | exact .inr rfl) ?_)
          exact AllI.nil
        exact AllI.nil
      case he =>
      clear hB m z c a b
      rintro p wrrrrr ⟨hsz, hB, m, z, c, a, b, h_d⟩
      obtain ⟨le_d, d⟩ := h_d rfl
      clear h_d
      replace d : blk wrrrrr (p 9) (qfn (fun _ => 0)) 22 := d
      have ne_m_d : w.heap.size ≠ p 9 := Nat.ne_of_lt (Nat.lt_of_lt_of_le lt_m le_d)
      have ne_z_d : (w.heap.size + 1) ≠ p 9 := Nat.ne_of_lt (Nat.lt_of_lt_of_le lt_z le_d)
      have ne_c_d : (w.heap.size + 2) ≠ p 9 := Nat.ne_of_lt (Nat.lt_of_lt_of_le lt_c le_d)
      have ne_a_d : a_b ≠ p 9 := Nat.ne_of_lt (Nat.lt_of_lt_of_le lt_a le_d)
      have ne_b_d : b_b ≠ p 9 := Nat.ne_of_lt (Nat.lt_of_lt_of_le lt_b le_d)
      have ge_d : w.heap.size ≤ p 9 := Nat.le_trans hW0 le_d
      generalize p 9 = d_b at *
      clear lt_m
      clear lt_z
      clear lt_c
      clear lt_a
      clear lt_b
      clear hsz hW0
      go_upto_region 7 with (fail)
      have lt_m := m.lt
      have lt_z := z.lt
      have lt_c := c.lt
      have lt_a := a.lt
      have lt_b := b.lt
      have lt_d := d.lt
      have hW0 : w.heap.size ≤ wrrrrr.heap.size := by have := hB.size; first | exact this | simpa using this
      apply wp_region_Q 2 [0, 1] [] [_, _] (fun p L w' => wrrrrr.heap.size ≤ w'.heap.size ∧ Below w.heap.size w w' ∧ blk w' w.heap.size (a26c (yw, V, tq)) 48 ∧ blk w' (w.heap.size + 1) (zst ()) 56 ∧ blk w' (w.heap.size + 2) (prowS (w.heap.size + 1)) 42 ∧ blk w' a_b (qfn (fun _ => 0)) 22 ∧ blk w' b_b (qfn (fun _ => 0)) 22 ∧ blk w' d_b (qfn (fun _ => 0)) 22) _ [(0, 42), (1, 43)] [0, 1]
      case hn => rfl
      case hB => kernel_rfl
      case hds => kernel_rfl
      case hA => (intro p; simp only [putsD, Act.put, List.setIfInBounds_toArray, List.set_cons_zero, List.set_cons_succ, List.getD_cons_zero, List.getD_cons_succ]; exact rfl)
      case h0 => exact fun p => ⟨Nat.le_refl _, hB, m, z, c, a, b, d⟩
      case hmore => exact fun p L w1 w2 ⟨hsz, hB, m, z, c, a, b, d⟩ hm => ⟨Nat.le_trans hsz hm.size, hB.trans (hm.mono (Nat.le_trans hW0 hsz)), m.below hm m.lt, z.below hm z.lt, c.below hm c.lt, a.below hm a.lt, b.below hm b.lt, d.below hm d.lt⟩
      case hs =>
        intro more
        refine stepV _ rfl rfl (fun _ _ _ h => h) (by intros; go_simp; exact ⟨rfl, rfl⟩) ?_
        refine stepD 1 rfl (fun p => rfl) (fun _ _ _ h => h) more ?_ ?_
        · rintro p L w1 ⟨hsz, hB, m, z, c, a, b, d⟩ hk
          go_simp
          refine (tresetN (.pointer v) _ (fun w9 hb9 => hvn.out w9 (z.below hb9 z.lt))).mono ?_
          rintro e w2 ⟨rfl, h2⟩
          first | exact ⟨rfl, h2⟩ | (subst h2; exact ⟨rfl, Below.refl _ _⟩)
        exact AllI.nil
      case hV0 => exact fun p q => AllI.nil
      case he =>
      clear hB m z c a b d
      rintro p wrrrrrr ⟨hsz, hB, m, z, c, a, b, d⟩
      clear lt_m
      clear lt_z
      clear lt_c
      clear lt_a
      clear lt_b
      clear lt_d
      clear hsz hW0
      go_upto_region 8 with (fail)
      have lt_m := m.lt
      have lt_z := z.lt
      have lt_c := c.lt
      have lt_a := a.lt
      have lt_b := b.lt
      have lt_d := d.lt
      have hW0 : w.heap.size ≤ wrrrrrr.heap.size := by have := hB.size; first | exact this | simpa using this
      apply wp_region_Q 31 [0, 1, 3, 7, 15, 31, 63, 127, 255, 511, 1023, 2047, 4095, 8191, 16383, 32767, 65535, 131071, 262143, 524287, 1048575, 2097151, 4194303, 8388607, 16777215, 33554431, 67108863, 134217727, 268435455, 536870911, 1073741823] [] [_, _, _, _, _, _, _, _, _, _, _, _, _, _, _, _, _, _, _, _, _, _, _, _, _, _, _, _, _, _, _] (fun p L w' => wrrrrrr.heap.size ≤ w'.heap.size ∧ Below w.heap.size w w' ∧ blk w' w.heap.size (a26c (yw, V, tq)) 48 ∧ blk w' (w.heap.size + 1) (zst ()) 56 ∧ blk w' (w.heap.size + 2) (prowS (w.heap.size + 1)) 42 ∧ blk w' a_b (qfn (fun _ => 0)) 22 ∧ blk w' b_b (qfn (fun _ => 0)) 22 ∧ blk w' d_b (qfn (fun _ => 0)) 22) _ [(0, 44), (1, 45), (2, 46), (3, 47), (4, 48), (5, 49), (6, 50), (7, 51), (8, 52), (9, 53), (10, 54), (11, 55), (12, 56), (13, 57), (14, 58), (15, 59), (16, 60), (17, 61), (18, 62), (19, 63), (20, 64), (21, 65), (22, 66), (23, 67), (24, 68), (25, 69), (26, 70), (27, 71), (28, 72), (29, 73), (30, 74)] [0, 1, 2, 3, 4, 5, 6, 7, 8, 9, 10, 11, 12, 13, 14, 15, 16, 17, 18, 19, 20, 21, 22, 23, 24, 25, 26, 27, 28, 29, 30]
      case hn => rfl
      case hB => kernel_rfl
      case hds => kernel_rfl
      case hA => (intro p; simp only [putsD, Act.put, List.setIfInBounds_toArray, List.set_cons_zero, List.set_cons_succ, List.getD_cons_zero, List.getD_cons_succ]; exact rfl)
      case h0 => exact fun p => ⟨Nat.le_refl _, hB, m, z, c, a, b, d⟩
      case hmore => exact fun p L w1 w2 ⟨hsz, hB, m, z, c, a, b, d⟩ hm => ⟨Nat.le_trans hsz hm.size, hB.trans (hm.mono (Nat.le_trans hW0 hsz)), m.below hm m.lt, z.below hm z.lt, c.below hm c.lt, a.below hm a.lt, b.below hm b.lt, d.below hm d.lt⟩
      case hs =>
        intro more
        refine stepV 0 rfl rfl (fun _ _ _ h => h) ?_ ?_
        · rintro p L w1 ⟨hsz, hB, m, z, c, a, b, d⟩ hk
          first | exact valR_row _ _ rfl _ rfl _ _ a _ Try.underlying22 rfl (by first | kernel_rfl | (rw [qfn_size]; kernel_rfl)) rfl | (have hc := a.cellIs (qfn_get _ (show 0 < 4 by omega)); go_simp; exact ⟨rfl, rfl⟩)
        refine stepV 1 rfl rfl (fun _ _ _ h => h) ?_ ?_
        · intros; (try simp only [vfn, qfn]); go_simp; exact ⟨rfl, rfl⟩
        iterate 2 (refine stepV _ rfl rfl (fun _ _ _ h => h) (by intros; go_simp; exact ⟨rfl, rfl⟩) ?_)
        refine stepVg 4 rfl (fun p => (by first | rfl | (simp [Region.wanted, yielded]; done))) (fun _ _ _ h => h) ?_ ?_
        · rintro p L w1 ⟨hsz, hB, m, z, c, a, b, d⟩ hk
          first | exact valR_row _ _ rfl _ rfl _ _ b _ Try.underlying22 rfl (by first | kernel_rfl | (rw [qfn_size]; kernel_rfl)) rfl | (have hc := b.cellIs (qfn_get _ (show 0 < 4 by omega)); go_simp; exact ⟨rfl, rfl⟩)
        refine stepVg 5 rfl (fun p => (by first | rfl | (simp [Region.wanted, yielded]; done))) (fun _ _ _ h => h) ?_ ?_
        · intros; (try simp only [vfn, qfn]); go_simp; exact ⟨rfl, rfl⟩
        refine stepVg 6 rfl (fun p => (by first | rfl | (simp [Region.wanted, yielded]; done))) (fun _ _ _ h => h) ?_ ?_
        · intros; go_simp; exact ⟨rfl, rfl⟩
        iterate 2 (refine stepV _ rfl rfl (fun _ _ _ h => h) (by intros; go_simp; exact ⟨rfl, rfl⟩) ?_)
        refine stepVg 9 rfl (fun p => (by first | rfl | (simp [Region.wanted, yielded]; done))) (fun _ _ _ h => h) ?_ ?_
        · rintro p L w1 ⟨hsz, hB, m, z, c, a, b, d⟩ hk
          first | exact valR_row _ _ rfl _ rfl _ _ d _ Try.underlying22 rfl (by first | kernel_rfl | (rw [qfn_size]; kernel_rfl)) rfl | (have hc := d.cellIs (qfn_get _ (show 0 < 4 by omega)); go_simp; exact ⟨rfl, rfl⟩)
        refine stepVg 10 rfl (fun p => (by first | rfl | (simp [Region.wanted, yielded]; done))) (fun _ _ _ h => h) ?_ ?_
        · intros; (try simp only [vfn, qfn]); go_simp; exact ⟨rfl, rfl⟩
        refine stepVg 11 rfl (fun p => (by first | rfl | (simp [Region.wanted, yielded]; done))) (fun _ _ _ h => h) ?_ ?_
        · intros; go_simp; exact ⟨rfl, rfl⟩
        iterate 2 (refine stepV _ rfl rfl (fun _ _ _ h => h) (by intros; go_simp; exact ⟨rfl, rfl⟩) ?_)
        refine stepVg 14 rfl (fun p => (by first | rfl | (simp [Region.wanted, yielded]; done))) (fun _ _ _ h => h) ?_ ?_
        · intros; go_simp; exact ⟨rfl, rfl⟩
        refine stepVg 15 rfl (fun p => (by first | rfl | (simp [Region.wanted, yielded]; done))) (fun _ _ _ h => h) ?_ ?_
        · intros; go_simp; exact ⟨rfl, rfl⟩
        iterate 2 (refine stepV _ rfl rfl (fun _ _ _ h => h) (by intros; go_simp; exact ⟨rfl, rfl⟩) ?_)
        refine stepVg 18 rfl (fun p => (by first | rfl | (simp [Region.wanted, yielded]; done))) (fun _ _ _ h => h) ?_ ?_
        · intros; go_simp; exact ⟨rfl, rfl⟩
        refine stepVg 19 rfl (fun p => (by first | rfl | (simp [Region.wanted, yielded]; done))) (fun _ _ _ h => h) ?_ ?_
        · intros; go_simp; exact ⟨rfl, rfl⟩
        iterate 2 (refine stepV _ rfl rfl (fun _ _ _ h => h) (by intros; go_simp; exact ⟨rfl, rfl⟩) ?_)
        refine stepVg 22 rfl (fun p => (by first | rfl | (simp [Region.wanted, yielded]; done))) (fun _ _ _ h => h) ?_ ?_
        · intros; go_simp; exact ⟨rfl, rfl⟩
        refine stepVg 23 rfl (fun p => (by first | rfl | (simp [Region.wanted, yielded]; done))) (fun _ _ _ h => h) ?_ ?_
        · intros; go_simp; exact ⟨rfl, rfl⟩
        iterate 2 (refine stepV _ rfl rfl (fun _ _ _ h => h) (by intros; go_simp; exact ⟨rfl, rfl⟩) ?_)
        refine stepVg 26 rfl (fun p => (by first | rfl | (simp [Region.wanted, yielded]; done))) (fun _ _ _ h => h) ?_ ?_
        · intros; go_simp; exact ⟨rfl, rfl⟩
        refine stepD 27 rfl (fun p => (by first | rfl | (simp [Region.wanted, yielded]; done))) (fun _ _ _ h => h) more ?_ ?_
        · rintro p L w1 ⟨hsz, hB, m, z, c, a, b, d⟩ hk
          go_simp
          refine (tcmdN (.pointer v) _ (fun w9 hb9 => hvn.out w9 (z.below hb9 z.lt))).mono ?_
          rintro e w2 ⟨rfl, h2⟩
          first | exact ⟨rfl, h2⟩ | (subst h2; exact ⟨rfl, Below.refl _ _⟩)
        refine stepVg 28 rfl (fun p => (by first | rfl | (simp [Region.wanted, yielded]; done))) (fun _ _ _ h => h) ?_ ?_
        · intros; (try simp only [vfn, qfn]); go_simp; exact ⟨rfl, rfl⟩
        refine stepVg 29 rfl (fun p => (by first | rfl | (simp [Region.wanted, yielded]; done))) (fun _ _ _ h => h) ?_ ?_
        · intros; go_simp; exact ⟨rfl, rfl⟩
        refine stepV _ rfl rfl (fun _ _ _ h => h) (by intros; go_simp; exact ⟨rfl, rfl⟩) ?_
        exact AllI.nil
      case hV0 => exact fun p q => AllI.nil
      case he =>
      clear hB m z c a b d
      rintro p wrrrrrrr ⟨hsz, hB, m, z, c, a, b, d⟩
      clear lt_m
      clear lt_z
      clear lt_c
      clear lt_a
      clear lt_b
      clear lt_d
      clear hsz hW0
      go_wp2_with (fail)
      clear a b d
      go_roundg (2 - (k + 1))
      case rel =>
        exact ⟨k + 1, by omega, rfl, m, z, c, hB⟩
      case measure => omega
    · obtain rfl : k = 2 := by omega
      have AW := Lib.hid (fun w => awake26_any w)
      go_wp2_with (first
        | (go_at_call 19; with_reducible refine (AW.out _).mono ?_; rintro e w9 ⟨rfl, hb⟩; replace hB := hB.trans (hb.mono hB.size); replace m := m.below hb m.lt; replace z := z.below hb z.lt; replace c := c.below hb c.lt; clear hb))
      go_ret
      exact ⟨rfl, hB⟩
end Go.Proofs.Ytjnocbjngojigaa
