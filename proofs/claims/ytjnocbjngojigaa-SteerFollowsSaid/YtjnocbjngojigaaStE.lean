/-
  Controls: Rest. Controls: Sun, Point.
-/
import Derived.Test.YtjnocbjngojigaaStBG
import Derived.Test.YtjnocbjngojigaaStC
import Derived.Test.YtjnocbjngojigaaStS
import Derived.Test.YtjnocbjngojigaaBet
set_option linter.unusedSimpArgs false
set_option linter.unusedVariables false
namespace Go.Proofs.Ytjnocbjngojigaa
open Go.RowKit PM Dt
theorem hn_of {N : FuncId} {fn : Func} {c : Code} (h1 : Try.prog.funcs[N]? = some fn) (h2 : (fn.name == "runtime.NumGoroutine") = false) (hb : fn.body = some c) : ∀ ar w1, Sem.run Try.prog (callFunc N ar) w1 = .ok (.enter N ar) w1 := by
  intro ar w1
  have h3 : fn.name ≠ "runtime.NumGoroutine" := by simpa using h2
  simp [callFunc, h1, h3, hb]
set_option maxRecDepth 100000 in
set_option maxHeartbeats 4000000 in
theorem trest_ok (X : SSt) (V : SeT) (b : Nat) (w : World) (hg : blk w b (ssc X) 56) (hk : senseOk V = true) (hD : ∀ i, i < 3 → -4194304 ≤ X.D i ∧ X.D i ≤ 4194304) : Calls Try.prog 22 #[.pointer (some ⟨b, 0, none⟩), .agg (sec V)] w fun e w' => e = .returned (.tuple #[.agg (qfn (stC X V (fun _ => 0))), .int .i64 0]) ∧ blk w' b (ssc (stX X V (fun _ => 0) (fun _ => 0))) 56 ∧ Save b b w w' := by
  have ST := Lib.hid (fun w1 q (g : blk w1 b (ssc X) 56) (hq : blk w1 q (ptc b) 42) (hne : q ≠ b) => tstep_g_any X V b 58 #[.pointer (some ⟨q, 0, none⟩)] (fun _ => 0) (fun _ => 0) w1 g hk hD (fun i hi => ⟨by decide, by decide⟩) (fun w2 hS hg2 => rest1_any X b q (arrB X V) w2 hg2 (hq.save hS (by omega))) (hn_of Try.func58 rfl rfl))
  clear hk hD
  go_enter Try.func22, Try.ntmps22
  go_upto_region 1 with (fail)
  simp only [show #[Value.pointer (some ⟨b, 0, none⟩)] = ptc b from rfl, zero_spd]
  have pp : blk (((w.alloc (.cells (ptc b) 42)).alloc (.cells (sec V) 46)).alloc (.cells (qfn fun _ => 0) 22)) w.heap.size (ptc b) 42 := ((blk.new _ _ _).alloc _).alloc _
  have v : blk (((w.alloc (.cells (ptc b) 42)).alloc (.cells (sec V) 46)).alloc (.cells (qfn fun _ => 0) 22)) (w.heap.size + 1) (sec V) 46 := (blk.new' (by simp)).alloc _
  have r : blk (((w.alloc (.cells (ptc b) 42)).alloc (.cells (sec V) 46)).alloc (.cells (qfn fun _ => 0) 22)) (w.heap.size + 2) (qfn fun _ => 0) 22 := blk.new' (by simp)
  have hB : Below w.heap.size w (((w.alloc (.cells (ptc b) 42)).alloc (.cells (sec V) 46)).alloc (.cells (qfn fun _ => 0) 22)) := by go_grown
  generalize (((w.alloc (.cells (ptc b) 42)).alloc (.cells (sec V) 46)).alloc (.cells (qfn fun _ => 0) 22)) = w0 at *
  have g : blk w0 b (ssc X) 56 := hg.below hB hg.lt
  have gl := hg.lt
  have ne_pp_g : w.heap.size ≠ b := by omega
  have ne_v_g : (w.heap.size + 1) ≠ b := by omega
  have ne_r_g : (w.heap.size + 2) ≠ b := by omega
  replace hB : Save b b w w0 := Save.of hB
  have cp : w0.cell? ⟨w.heap.size, 0, none⟩ = some (.pointer (some ⟨b, 0, none⟩))   := pp.cellIs rfl
  go_wp2_with (first | (refine wpList_load_rowG ?hw _ _ rfl _ rfl _ _ _ _ v Try.underlying46 rfl ?hi ?_; (case hw => (first | rfl | (simp [Region.wanted, yielded]; done))); (case hi => (first | kernel_rfl | (rw [sec_size]; kernel_rfl)))) | (go_at_call 57; with_reducible refine (ST.out _ _ g pp ne_pp_g).mono ?_; rintro e wz ⟨rfl, g2, hS⟩; replace pp := pp.save hS (by omega); replace v := v.save hS (by omega); replace r := r.save hS (by omega); replace hB := hB.next hS; replace g := g2; clear hS g2) | (refine wpList_store_row rfl _ _ _ rfl _ rfl _ rfl _ _ r (by first | kernel_rfl | (rw [qfn_size]; kernel_rfl)) (by first | rfl | simp only [qfn_size]) (by first | exact qfn_one _ | rfl) ?_))
  refine bodyPost_ret (results_vec rfl _ _ _ _ _ _ _ rfl (r.row (qfn (stC X V (fun _ => 0)))) Try.underlying22 rfl (by rw [qfn_size]; kernel_rfl)) rfl ?_
  exact ⟨rfl, g.rowOther (Ne.symm ne_r_g) _, hB.row (by first | exact .inr (by omega) | (have := hB.size; omega)) _⟩
set_option maxRecDepth 100000 in
set_option maxHeartbeats 4000000 in
theorem trest_no (X : SSt) (V : SeT) (b : Nat) (w : World) (hg : blk w b (ssc X) 56) (hk : senseOk V = false) : Calls Try.prog 22 #[.pointer (some ⟨b, 0, none⟩), .agg (sec V)] w fun e w' => e = .returned (.tuple #[.agg (qfn (fun _ => 0)), .int .i64 2]) ∧ Below w.heap.size w w' := by
  have ST := Lib.hid (fun w1 q (g : blk w1 b (ssc X) 56) => tstep_g_no X V b 58 #[.pointer (some ⟨q, 0, none⟩)] w1 g hk)
  clear hk
  go_enter Try.func22, Try.ntmps22
  go_upto_region 1 with (fail)
  simp only [show #[Value.pointer (some ⟨b, 0, none⟩)] = ptc b from rfl, zero_spd]
  have pp : blk (((w.alloc (.cells (ptc b) 42)).alloc (.cells (sec V) 46)).alloc (.cells (qfn fun _ => 0) 22)) w.heap.size (ptc b) 42 := ((blk.new _ _ _).alloc _).alloc _
  have v : blk (((w.alloc (.cells (ptc b) 42)).alloc (.cells (sec V) 46)).alloc (.cells (qfn fun _ => 0) 22)) (w.heap.size + 1) (sec V) 46 := (blk.new' (by simp)).alloc _
  have r : blk (((w.alloc (.cells (ptc b) 42)).alloc (.cells (sec V) 46)).alloc (.cells (qfn fun _ => 0) 22)) (w.heap.size + 2) (qfn fun _ => 0) 22 := blk.new' (by simp)
  have hB : Below w.heap.size w (((w.alloc (.cells (ptc b) 42)).alloc (.cells (sec V) 46)).alloc (.cells (qfn fun _ => 0) 22)) := by go_grown
  generalize (((w.alloc (.cells (ptc b) 42)).alloc (.cells (sec V) 46)).alloc (.cells (qfn fun _ => 0) 22)) = w0 at *
  have g : blk w0 b (ssc X) 56 := hg.below hB hg.lt
  have gl := hg.lt
  have ne_pp_g : w.heap.size ≠ b := by omega
  have ne_v_g : (w.heap.size + 1) ≠ b := by omega
  have ne_r_g : (w.heap.size + 2) ≠ b := by omega
  replace hB : Save b b w w0 := Save.of hB
  have cp : w0.cell? ⟨w.heap.size, 0, none⟩ = some (.pointer (some ⟨b, 0, none⟩))   := pp.cellIs rfl
  have hB0 : Below w.heap.size w w0 := ⟨hB.os, hB.tape, hB.output, hB.size, fun k hk => by
    by_cases e : k = b
    · subst e; unfold blk at hg g; rw [g, hg]
    · exact hB.block k hk (by omega)⟩
  replace hB := hB0
  go_wp2_with (first | (refine wpList_load_rowG ?hw _ _ rfl _ rfl _ _ _ _ v Try.underlying46 rfl ?hi ?_; (case hw => (first | rfl | (simp [Region.wanted, yielded]; done))); (case hi => (first | kernel_rfl | (rw [sec_size]; kernel_rfl)))) | (go_at_call 57; with_reducible refine (ST.out _ _ g).mono ?_; rintro e wz ⟨rfl, hb⟩; replace hB := hB.trans (hb.mono hB.size); replace r := r.below hb r.lt; clear hb) | (refine wpList_store_row rfl _ _ _ rfl _ rfl _ rfl _ _ r (by first | kernel_rfl | (rw [qfn_size]; kernel_rfl)) (by first | rfl | simp only [qfn_size]) (by first | exact qfn_one _ | rfl) ?_))
  refine bodyPost_ret (results_vec rfl _ _ _ _ _ _ _ rfl (r.row (qfn (fun _ => 0))) Try.underlying22 rfl (by first | kernel_rfl | (rw [qfn_size]; kernel_rfl))) rfl ?_
  refine ⟨?_, Below.setRow hB (by omega) _⟩
  rfl
end Go.Proofs.Ytjnocbjngojigaa
namespace Go.Proofs.Ytjnocbjngojigaa
open Go.RowKit PM Dt
def sunAx (X : SSt) (V : SeT) : Nat → Int := sunA X V (arrB X V)
def sunT (X : SSt) (V : SeT) : Nat → Int := sunTo X V (arrB X V)
set_option maxRecDepth 100000 in
set_option maxHeartbeats 4000000 in
theorem tsun_gen (X : SSt) (V : SeT) (b : Nat) (w : World) (hg : blk w b (ssc X) 56) (hk : senseOk V = true) (hD : ∀ i, i < 3 → -4194304 ≤ X.D i ∧ X.D i ≤ 4194304) (hT : ∀ i, i < 3 → -1099511627776 ≤ sunT X V i ∧ sunT X V i ≤ 1099511627776) (hC : ∀ v0 q w2, blk w2 b (ssc X) 56 → blk w2 q (ptc b) 42 → blk w2 v0 (sec V) 46 → Calls Try.prog 61 (#[.bool (arrB X V)] ++ #[.pointer (some ⟨v0, 0, none⟩), .pointer (some ⟨q, 0, none⟩)]) w2 fun e w' => e = .returned (.agg (vfn (sunT X V))) ∧ Below w2.heap.size (w2.setRow b (ssc ⟨X.D, sunAx X V, X.P, X.g⟩)) w') : Calls Try.prog 24 #[.pointer (some ⟨b, 0, none⟩), .agg (sec V)] w fun e w' => e = .returned (.tuple #[.agg (qfn (stC X V (sunT X V))), .int .i64 0]) ∧ blk w' b (ssc (stX X V (sunAx X V) (sunT X V))) 56 ∧ Save b b w w' := by
  have ST := Lib.hid (fun w1 v0 q (g : blk w1 b (ssc X) 56) (hv : blk w1 v0 (sec V) 46) (hq : blk w1 q (ptc b) 42) (hne : q ≠ b) (hnv : v0 ≠ b) => tstep_g_any X V b 61 #[.pointer (some ⟨v0, 0, none⟩), .pointer (some ⟨q, 0, none⟩)] (sunAx X V) (sunT X V) w1 g hk hD hT (fun w2 hS hg2 => hC v0 q w2 hg2 (hq.save hS (by omega)) (hv.save hS (by omega))) (hn_of Try.func61 rfl rfl))
  clear hk hD hT hC
  generalize sunT X V = To at *
  generalize sunAx X V = Ax at *
  go_enter Try.func24, Try.ntmps24
  go_upto_region 1 with (fail)
  simp only [show #[Value.pointer (some ⟨b, 0, none⟩)] = ptc b from rfl, zero_spd]
  have pp : blk (((w.alloc (.cells (ptc b) 42)).alloc (.cells (sec V) 46)).alloc (.cells (qfn fun _ => 0) 22)) w.heap.size (ptc b) 42 := ((blk.new _ _ _).alloc _).alloc _
  have v : blk (((w.alloc (.cells (ptc b) 42)).alloc (.cells (sec V) 46)).alloc (.cells (qfn fun _ => 0) 22)) (w.heap.size + 1) (sec V) 46 := (blk.new' (by simp)).alloc _
  have r : blk (((w.alloc (.cells (ptc b) 42)).alloc (.cells (sec V) 46)).alloc (.cells (qfn fun _ => 0) 22)) (w.heap.size + 2) (qfn fun _ => 0) 22 := blk.new' (by simp)
  have hB : Below w.heap.size w (((w.alloc (.cells (ptc b) 42)).alloc (.cells (sec V) 46)).alloc (.cells (qfn fun _ => 0) 22)) := by go_grown
  generalize (((w.alloc (.cells (ptc b) 42)).alloc (.cells (sec V) 46)).alloc (.cells (qfn fun _ => 0) 22)) = w0 at *
  have g : blk w0 b (ssc X) 56 := hg.below hB hg.lt
  have gl := hg.lt
  have ne_pp_g : w.heap.size ≠ b := by omega
  have ne_v_g : (w.heap.size + 1) ≠ b := by omega
  have ne_r_g : (w.heap.size + 2) ≠ b := by omega
  replace hB : Save b b w w0 := Save.of hB
  have cp : w0.cell? ⟨w.heap.size, 0, none⟩ = some (.pointer (some ⟨b, 0, none⟩))   := pp.cellIs rfl
  go_wp2_with (first | (refine wpList_load_rowG ?hw _ _ rfl _ rfl _ _ _ _ v Try.underlying46 rfl ?hi ?_; (case hw => (first | rfl | (simp [Region.wanted, yielded]; done))); (case hi => (first | kernel_rfl | (rw [sec_size]; kernel_rfl)))) | (go_at_call 57; with_reducible refine (ST.out _ _ _ g v pp ne_pp_g ne_v_g).mono ?_; rintro e wz ⟨rfl, g2, hS⟩; replace pp := pp.save hS (by omega); replace v := v.save hS (by omega); replace r := r.save hS (by omega); replace hB := hB.next hS; replace g := g2; clear hS g2) | (refine wpList_store_row rfl _ _ _ rfl _ rfl _ rfl _ _ r (by first | kernel_rfl | (rw [qfn_size]; kernel_rfl)) (by first | rfl | simp only [qfn_size]) (by first | exact qfn_one _ | rfl) ?_))
  refine bodyPost_ret (results_vec rfl _ _ _ _ _ _ _ rfl (r.row (qfn (stC X V To))) Try.underlying22 rfl (by rw [qfn_size]; kernel_rfl)) rfl ?_
  exact ⟨rfl, g.rowOther (Ne.symm ne_r_g) _, hB.row (by first | exact .inr (by omega) | (have := hB.size; omega)) _⟩
theorem tsun_ok (X : SSt) (V : SeT) (b : Nat) (w : World) (hg : blk w b (ssc X) 56) (hk : senseOk V = true) (hD : ∀ i, i < 3 → -4194304 ≤ X.D i ∧ X.D i ≤ 4194304) (hT : ∀ i, i < 3 → -1099511627776 ≤ sunT X V i ∧ sunT X V i ≤ 1099511627776) : Calls Try.prog 24 #[.pointer (some ⟨b, 0, none⟩), .agg (sec V)] w fun e w' => e = .returned (.tuple #[.agg (qfn (stC X V (sunT X V))), .int .i64 0]) ∧ blk w' b (ssc (stX X V (sunAx X V) (sunT X V))) 56 ∧ Save b b w w' := by
  have hsn : ∀ i, i < 3 → -4294967296 ≤ V.sun i ∧ V.sun i ≤ 4294967296 := fun i hi => by
    simp only [senseOk, Bool.and_eq_true] at hk
    have := (sb_iff _ _).1 ((smallB_iff V.sun _).1 hk.2.2 i hi); omega
  exact tsun_gen X V b w hg hk hD hT (fun v0 q w2 g hq hv => sun1_any X V b v0 q (arrB X V) w2 g hq hv hsn)
set_option maxRecDepth 100000 in
set_option maxHeartbeats 6000000 in
theorem tpoint_ok (X : SSt) (V : SeT) (q : Nat → Int) (b : Nat) (w : World) (hg : blk w b (ssc X) 56) (ha : ∀ i, i < 4 → I64 (V.att i)) (hq : ∀ i, i < 4 → I64 (q i)) (hk : senseOk V = true) (hD : ∀ i, i < 3 → -4194304 ≤ X.D i ∧ X.D i ≤ 4194304) (hE : betE V.att q = 0) (hL : ∀ i, i < 4 → -1099511627776 ≤ betF V.att q i ∧ betF V.att q i ≤ 1099511627776) (hT : ∀ i, i < 3 → -1099511627776 ≤ ptTo (betF V.att q) i ∧ ptTo (betF V.att q) i ≤ 1099511627776) : Calls Try.prog 23 #[.pointer (some ⟨b, 0, none⟩), .agg (sec V), .agg (qfn q)] w fun e w' => e = .returned (.tuple #[.agg (qfn (stC X V (ptTo (betF V.att q)))), .int .i64 0]) ∧ blk w' b (ssc (stX X V (fun _ => 0) (ptTo (betF V.att q)))) 56 ∧ Save b b w w' := by
  have BE := Lib.hid (fun w => between_any V.att q w ha hq)
  rw [hE] at BE
  clear hE ha hq
  have ST := Lib.hid (fun w1 v0 l (g : blk w1 b (ssc X) 56) (hv : blk w1 v0 (ptc b) 42) (hl : blk w1 l (qfn (betF V.att q)) 23) (hne : v0 ≠ b) (hnl : l ≠ b) => tstep_g_any X V b 59 #[.pointer (some ⟨v0, 0, none⟩), .pointer (some ⟨l, 0, none⟩)] (fun _ => 0) (ptTo (betF V.att q)) w1 g hk hD hT (fun w2 hS hg2 => point1_any X (betF V.att q) b v0 l (arrB X V) w2 hg2 (hv.save hS (by omega)) (hl.save hS (by omega)) hL) (hn_of Try.func59 rfl rfl))
  clear hk hD hT hL
  generalize ptTo (betF V.att q) = To at *
  generalize betF V.att q = Bt at *
  go_enter Try.func23, Try.ntmps23
  go_upto_region 1 with (fail)
  simp only [show #[Value.pointer (some ⟨b, 0, none⟩)] = ptc b from rfl, zero_spd]
  have pp : blk ((((w.alloc (.cells (ptc b) 42)).alloc (.cells (sec V) 46)).alloc (.cells (qfn q) 23)).alloc (.cells (qfn fun _ => 0) 22)) w.heap.size (ptc b) 42 := (((blk.new _ _ _).alloc _).alloc _).alloc _
  have v : blk ((((w.alloc (.cells (ptc b) 42)).alloc (.cells (sec V) 46)).alloc (.cells (qfn q) 23)).alloc (.cells (qfn fun _ => 0) 22)) (w.heap.size + 1) (sec V) 46 := ((blk.new' (by simp)).alloc _).alloc _
  have tq : blk ((((w.alloc (.cells (ptc b) 42)).alloc (.cells (sec V) 46)).alloc (.cells (qfn q) 23)).alloc (.cells (qfn fun _ => 0) 22)) (w.heap.size + 2) (qfn q) 23 := (blk.new' (by simp)).alloc _
  have r : blk ((((w.alloc (.cells (ptc b) 42)).alloc (.cells (sec V) 46)).alloc (.cells (qfn q) 23)).alloc (.cells (qfn fun _ => 0) 22)) (w.heap.size + 3) (qfn fun _ => 0) 22 := blk.new' (by simp)
  have hB : Below w.heap.size w ((((w.alloc (.cells (ptc b) 42)).alloc (.cells (sec V) 46)).alloc (.cells (qfn q) 23)).alloc (.cells (qfn fun _ => 0) 22)) := by go_grown
  generalize ((((w.alloc (.cells (ptc b) 42)).alloc (.cells (sec V) 46)).alloc (.cells (qfn q) 23)).alloc (.cells (qfn fun _ => 0) 22)) = w0 at *
  have g : blk w0 b (ssc X) 56 := hg.below hB hg.lt
  have gl := hg.lt
  have ne_pp_g : w.heap.size ≠ b := by omega
  have ne_v_g : (w.heap.size + 1) ≠ b := by omega
  have ne_tq_g : (w.heap.size + 2) ≠ b := by omega
  have ne_r_g : (w.heap.size + 3) ≠ b := by omega
  replace hB : Save b b w w0 := Save.of hB
  have cp : w0.cell? ⟨w.heap.size, 0, none⟩ = some (.pointer (some ⟨b, 0, none⟩))   := pp.cellIs rfl
  have lt_pp := pp.lt
  have lt_v := v.lt
  have lt_tq := tq.lt
  have lt_r := r.lt
  have lt_g := g.lt
  have hW0 : w.heap.size ≤ w0.heap.size := by simpa using hB.size
  apply wp_region_Q 10 [0, 1, 3, 7, 15, 31, 63, 127, 255, 511] [7] [_, _, _, _, _, _, _, (fun p => .pointer (some ⟨p 7, 0, none⟩)), (fun _ => undef), _] (fun p L w' => w0.heap.size ≤ w'.heap.size ∧ Save b b w w' ∧ blk w' w.heap.size (ptc b) 42 ∧ blk w' (w.heap.size + 1) (sec V) 46 ∧ blk w' (w.heap.size + 2) (qfn q) 23 ∧ blk w' (w.heap.size + 3) (qfn fun _ => 0) 22 ∧ blk w' b (ssc X) 56 ∧ (L 7 = true → w0.heap.size ≤ p 7 ∧ blk w' (p 7) (bif L 8 then (qfn Bt) else (qfn fun _ => 0)) 23)) _ [(0, 11), (1, 12), (2, 13), (3, 14), (4, 10), (5, 15), (6, 16), (7, 8), (9, 9)] [0, 1, 2, 3, 4, 5, 6, 7, 8, 9]
  case hn => rfl
  case hB => kernel_rfl
  case hds => kernel_rfl
  case hA => (intro p; simp only [putsD, Act.put, sIT, sCZ, sCS, List.getD_cons_zero, List.getD_cons_succ]; exact rfl)
  case h0 => exact fun p => ⟨Nat.le_refl _, hB, pp, v, tq, r, g, fun h => absurd h (by decide)⟩
  case hmore => exact fun p L w1 w2 ⟨hsz, hB, pp, v, tq, r, g, h_lf⟩ hm => ⟨Nat.le_trans hsz hm.size, hB.trans (hm.mono (Nat.le_trans hW0 hsz)), pp.below hm pp.lt, v.below hm v.lt, tq.below hm tq.lt, r.below hm r.lt, g.below hm g.lt, fun hl => ⟨(h_lf hl).1, (h_lf hl).2.below hm (h_lf hl).2.lt⟩⟩
  case hs =>
    intro more
    refine stepV _ rfl rfl (fun _ _ _ h => h) (by intros; go_simp; exact ⟨rfl, rfl⟩) ?_
    refine stepV 1 rfl rfl (fun _ _ _ h => h) ?_ ?_
    · rintro p L w1 ⟨hsz, hB, pp, v, tq, r, g, h_lf⟩ hk
      have L8 : L 8 = false := hk.2.2 8 rfl
      exact valR_part _ _ rfl _ 11 rfl _ _ v (qfn V.att) (se_a V) _ Try.underlying23 rfl (by rw [qfn_size]; kernel_rfl) rfl
    refine stepV 2 rfl rfl (fun _ _ _ h => h) ?_ ?_
    · rintro p L w1 ⟨hsz, hB, pp, v, tq, r, g, h_lf⟩ hk
      have L8 : L 8 = false := hk.2.2 8 rfl
      first | exact valR_row _ _ rfl _ rfl _ _ tq _ Try.underlying23 rfl (by first | kernel_rfl | (rw [qfn_size]; kernel_rfl)) rfl | (have hc := tq.cellIs (qfn_get _ (show 0 < 4 by omega)); go_simp; exact ⟨rfl, rfl⟩)
    refine stepD 3 rfl (fun p => rfl) (fun _ _ _ h => h) more ?_ ?_
    · rintro p L w1 ⟨hsz, hB, pp, v, tq, r, g, h_lf⟩ hk
      go_simp
      refine (BE.out _).mono ?_
      rintro e w2 ⟨rfl, h2⟩
      first | exact ⟨rfl, h2⟩ | (subst h2; exact ⟨rfl, Below.refl _ _⟩)
    iterate 3 (refine stepV _ rfl rfl (fun _ _ _ h => h) (by intros; go_simp; exact ⟨rfl, rfl⟩) ?_)
    refine AllI.cons ?_ ?_
    · refine stepI_alloc 7 rfl (fun p => rfl) rfl (qfn fun _ => 0) 23 (fun p => rfl) ?_ ?_
      · intro p w1
        go_simp
        first | rfl | rw [zero_quat]
      rintro p L w1 ⟨hsz, hB, pp, v, tq, r, g, h_lf⟩ hk
      have L8 : L 8 = false := hk.2.2 8 rfl
      refine ⟨Nat.le_trans hsz (by simp), hB.alloc (Nat.le_trans (by first | exact hW0 | (have := hB.size; simp at this ⊢; omega)) hsz) _, pp.alloc _, v.alloc _, tq.alloc _, r.alloc _, g.alloc _, fun _ => ⟨hsz, ?_⟩⟩
      rw [show upL L 7 8 = false from L8]
      exact blk.new _ _ _
    refine AllI.cons ?_ ?_
    · refine stepI_store 8 rfl (fun p => rfl) (fun p => rfl) _ _ _ rfl (fun p => p 7) 0 (fun p => rfl) (fun p => (qfn Bt)) (fun p => rfl) (fun p => (qfn fun _ => 0)) (fun p => (qfn Bt)) 23 (fun p => over_qq _ _) (fun p => by first | (rw [qfn_size, qfn_size]; decide) | simp [qfn_size, qfn_size]) (fun p => by rw [qfn_size]; kernel_rfl) (fun p => qfn_one _) ?_ ?_
      · rintro p L w1 ⟨hsz, hB, pp, v, tq, r, g, h_lf⟩ hk
        have L8 : L 8 = false := hk.1
        have hh := (h_lf (hk.2.1 7 rfl)).2
        rw [L8] at hh
        try simp only [cond_true, cond_false] at hh
        exact hh
      · rintro p L w1 ⟨hsz, hB, pp, v, tq, r, g, h_lf⟩ hk
        have L8 : L 8 = false := hk.1
        skip
        have hp := h_lf (hk.2.1 7 rfl)
        refine ⟨(by simpa using hsz), hB.row (by first | exact .inr (Nat.le_trans hW0 hp.1) | exact .inr ge_lf | exact .inl ⟨Nat.le_refl _, Nat.le_refl _⟩ | omega | (have := hB.size; simp at this ⊢; omega)) _, pp.rowOther (by first | exact Nat.ne_of_lt (Nat.lt_of_lt_of_le lt_pp hp.1) | omega) _, v.rowOther (by first | exact Nat.ne_of_lt (Nat.lt_of_lt_of_le lt_v hp.1) | omega) _, tq.rowOther (by first | exact Nat.ne_of_lt (Nat.lt_of_lt_of_le lt_tq hp.1) | omega) _, r.rowOther (by first | exact Nat.ne_of_lt (Nat.lt_of_lt_of_le lt_r hp.1) | omega) _, g.rowOther (by first | exact Nat.ne_of_lt (Nat.lt_of_lt_of_le lt_g hp.1) | omega) _, fun _ => ⟨hp.1, ?_⟩⟩
        rw [show upL L 8 8 = true from rfl]
        exact hp.2.row _
    refine stepV _ rfl rfl (fun _ _ _ h => h) (by intros; go_simp; exact ⟨rfl, rfl⟩) ?_
    exact AllI.nil
  case hV0 =>
    intro p q
    refine AllI.cons ?_ ?_
    · skip
      iterate 10 (refine AllI.cons (by first | exact .inl rfl | (refine .inr ?_; simp only [List.getD_cons_zero, List.getD_cons_succ]; done) | exact .inr rfl) ?_)
      exact AllI.nil
    exact AllI.nil
  case he =>
  clear hB pp v tq r g
  rintro p w0r ⟨hsz, hB, pp, v, tq, r, g, h_lf⟩
  obtain ⟨le_lf, lf⟩ := h_lf rfl
  clear h_lf
  replace lf : blk w0r (p 7) (qfn Bt) 23 := lf
  have ne_pp_lf : w.heap.size ≠ p 7 := Nat.ne_of_lt (Nat.lt_of_lt_of_le lt_pp le_lf)
  have ne_v_lf : (w.heap.size + 1) ≠ p 7 := Nat.ne_of_lt (Nat.lt_of_lt_of_le lt_v le_lf)
  have ne_tq_lf : (w.heap.size + 2) ≠ p 7 := Nat.ne_of_lt (Nat.lt_of_lt_of_le lt_tq le_lf)
  have ne_r_lf : (w.heap.size + 3) ≠ p 7 := Nat.ne_of_lt (Nat.lt_of_lt_of_le lt_r le_lf)
  have ne_g_lf : b ≠ p 7 := Nat.ne_of_lt (Nat.lt_of_lt_of_le lt_g le_lf)
  have ge_lf : w.heap.size ≤ p 7 := Nat.le_trans hW0 le_lf
  generalize p 7 = lf_b at *
  clear lt_pp lt_v lt_tq lt_r lt_g hsz hW0
  have cp2 : w0r.cell? ⟨w.heap.size, 0, none⟩ = some (.pointer (some ⟨b, 0, none⟩))   := pp.cellIs rfl
  have ge_lf2 : w.heap.size ≤ lf_b := ge_lf
  have ne_lf_g : lf_b ≠ b := by omega
  go_wp2_with (first | (refine wpList_load_rowG ?hw _ _ rfl _ rfl _ _ _ _ v Try.underlying46 rfl ?hi ?_; (case hw => (first | rfl | (simp [Region.wanted, yielded]; done))); (case hi => (first | kernel_rfl | (rw [sec_size]; kernel_rfl)))) | (go_at_call 57; with_reducible refine (ST.out _ _ _ g pp lf ne_pp_g ne_lf_g).mono ?_; rintro e wz ⟨rfl, g2, hS⟩; replace pp := pp.save hS (by omega); replace v := v.save hS (by omega); replace tq := tq.save hS (by omega); replace r := r.save hS (by omega); replace lf := lf.save hS (by omega); replace hB := hB.next hS; replace g := g2; clear hS g2) | (refine wpList_store_row rfl _ _ _ rfl _ rfl _ rfl _ _ r (by first | kernel_rfl | (rw [qfn_size]; kernel_rfl)) (by first | rfl | simp only [qfn_size]) (by first | exact qfn_one _ | rfl) ?_))
  refine bodyPost_ret (results_vec rfl _ _ _ _ _ _ _ rfl (r.row (qfn (stC X V To))) Try.underlying22 rfl (by rw [qfn_size]; kernel_rfl)) rfl ?_
  exact ⟨rfl, g.rowOther (Ne.symm ne_r_g) _, hB.row (by first | exact .inr (by omega) | (have := hB.size; omega)) _⟩
end Go.Proofs.Ytjnocbjngojigaa
