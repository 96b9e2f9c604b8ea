/-
  Controls: Rest.
-/
import Derived.Test.YtjnocbjngojigaaStBG
import Derived.Test.YtjnocbjngojigaaStC
set_option linter.unusedSimpArgs false
set_option linter.unusedVariables false
namespace Go.Proofs.Ytjnocbjngojigaa
open Go.RowKit PM Dt
theorem hn_of {N : FuncId} {fn : Func} {c : Code} (h1 : Try.prog.funcs[N]? = some fn) (h2 : (fn.name == "runtime.NumGoroutine") = false) (hb : fn.body = some c) : ∀ ar w1, Sem.run Try.prog (callFunc N ar) w1 = .ok (.enter N ar) w1 := by
  intro ar w1
  have h3 : fn.name ≠ "runtime.NumGoroutine" := by simpa using h2
  simp [callFunc, h1, h3, hb]
set_option maxRecDepth 100000 in
set_option maxHeartbeats 4000000 in
theorem trest_ok (X : SSt) (V : SeT) (b : Nat) (w : World) (hg : blk w b (ssc X) 56) (hk : senseOk V = true) (hD : ∀ i, i < 3 → -4194304 ≤ X.D i ∧ X.D i ≤ 4194304) : Calls Try.prog 22 #[.pointer (some ⟨b, 0, none⟩), .agg (sec V)] w fun e w' => e = .returned (.tuple #[.agg (qfn (stC X V (fun _ => 0))), .int .i64 0]) ∧ blk w' b (ssc (stX X V (fun _ => 0) (fun _ => 0))) 56 ∧ Save b b w w' := by
  have ST := Lib.hid (fun w1 q (g : blk w1 b (ssc X) 56) (hq : blk w1 q (ptc b) 42) (hne : q ≠ b) => tstep_g_any X V b 58 #[.pointer (some ⟨q, 0, none⟩)] (fun _ => 0) (fun _ => 0) w1 g hk hD (fun i hi => ⟨by decide, by decide⟩) (fun w2 hS hg2 => rest1_any X b q (arrB X V) w2 hg2 (hq.save hS (by omega))) (hn_of Try.func58 rfl rfl))
  clear hk hD
  go_enter Try.func22, Try.ntmps22
  go_upto_region 1 with (fail)
  simp only [show #[Value.pointer (some ⟨b, 0, none⟩)] = ptc b from rfl, zero_spd]
  have pp : blk (((w.alloc (.cells (ptc b) 42)).alloc (.cells (sec V) 46)).alloc (.cells (qfn fun _ => 0) 22)) w.heap.size (ptc b) 42 := ((blk.new _ _ _).alloc _).alloc _
  have v : blk (((w.alloc (.cells (ptc b) 42)).alloc (.cells (sec V) 46)).alloc (.cells (qfn fun _ => 0) 22)) (w.heap.size + 1) (sec V) 46 := (blk.new' (by simp)).alloc _
  have r : blk (((w.alloc (.cells (ptc b) 42)).alloc (.cells (sec V) 46)).alloc (.cells (qfn fun _ => 0) 22)) (w.heap.size + 2) (qfn fun _ => 0) 22 := blk.new' (by simp)
  have hB : Below w.heap.size w (((w.alloc (.cells (ptc b) 42)).alloc (.cells (sec V) 46)).alloc (.cells (qfn fun _ => 0) 22)) := by go_grown
  generalize (((w.alloc (.cells (ptc b) 42)).alloc (.cells (sec V) 46)).alloc (.cells (qfn fun _ => 0) 22)) = w0 at *
  have g : blk w0 b (ssc X) 56 := hg.below hB hg.lt
  have gl := hg.lt
  have ne_pp_g : w.heap.size ≠ b := by omega
  have ne_v_g : (w.heap.size + 1) ≠ b := by omega
  have ne_r_g : (w.heap.size + 2) ≠ b := by omega
  replace hB : Save b b w w0 := Save.of hB
  have cp : w0.cell? ⟨w.heap.size, 0, none⟩ = some (.pointer (some ⟨b, 0, none⟩))   := pp.cellIs rfl
  go_wp2_with (first | (refine wpList_load_rowG ?hw _ _ rfl _ rfl _ _ _ _ v Try.underlying46 rfl ?hi ?_; (case hw => (first | rfl | (simp [Region.wanted, yielded]; done))); (case hi => (first | kernel_rfl | (rw [sec_size]; kernel_rfl)))) | (go_at_call 57; with_reducible refine (ST.out _ _ g pp ne_pp_g).mono ?_; rintro e wz ⟨rfl, g2, hS⟩; replace pp := pp.save hS (by omega); replace v := v.save hS (by omega); replace r := r.save hS (by omega); replace hB := hB.next hS; replace g := g2; clear hS g2) | (refine wpList_store_row rfl _ _ _ rfl _ rfl _ rfl _ _ r (by first | kernel_rfl | (rw [qfn_size]; kernel_rfl)) (by first | rfl | simp only [qfn_size]) (by first | exact qfn_one _ | rfl) ?_))
  refine bodyPost_ret (results_vec rfl _ _ _ _ _ _ _ rfl (r.row (qfn (stC X V (fun _ => 0)))) Try.underlying22 rfl (by rw [qfn_size]; kernel_rfl)) rfl ?_
  exact ⟨rfl, g.rowOther (Ne.symm ne_r_g) _, hB.row (by first | exact .inr (by omega) | (have := hB.size; omega)) _⟩
set_option maxRecDepth 100000 in
set_option maxHeartbeats 4000000 in
theorem trest_no (X : SSt) (V : SeT) (b : Nat) (w : World) (hg : blk w b (ssc X) 56) (hk : senseOk V = false) : Calls Try.prog 22 #[.pointer (some ⟨b, 0, none⟩), .agg (sec V)] w fun e w' => e = .returned (.tuple #[.agg (qfn (fun _ => 0)), .int .i64 2]) ∧ Below w.heap.size w w' := by
  have ST := Lib.hid (fun w1 q (g : blk w1 b (ssc X) 56) => tstep_g_no X V b 58 #[.pointer (some ⟨q, 0, none⟩)] w1 g hk)
  clear hk
  go_enter Try.func22, Try.ntmps22
  go_upto_region 1 with (fail)
  simp only [show #[Value.pointer (some ⟨b, 0, none⟩)] = ptc b from rfl, zero_spd]
  have pp : blk (((w.alloc (.cells (ptc b) 42)).alloc (.cells (sec V) 46)).alloc (.cells (qfn fun _ => 0) 22)) w.heap.size (ptc b) 42 := ((blk.new _ _ _).alloc _).alloc _
  have v : blk (((w.alloc (.cells (ptc b) 42)).alloc (.cells (sec V) 46)).alloc (.cells (qfn fun _ => 0) 22)) (w.heap.size + 1) (sec V) 46 := (blk.new' (by simp)).alloc _
  have r : blk (((w.alloc (.cells (ptc b) 42)).alloc (.cells (sec V) 46)).alloc (.cells (qfn fun _ => 0) 22)) (w.heap.size + 2) (qfn fun _ => 0) 22 := blk.new' (by simp)
  have hB : Below w.heap.size w (((w.alloc (.cells (ptc b) 42)).alloc (.cells (sec V) 46)).alloc (.cells (qfn fun _ => 0) 22)) := by go_grown
  generalize (((w.alloc (.cells (ptc b) 42)).alloc (.cells (sec V) 46)).alloc (.cells (qfn fun _ => 0) 22)) = w0 at *
  have g : blk w0 b (ssc X) 56 := hg.below hB hg.lt
  have gl := hg.lt
  have ne_pp_g : w.heap.size ≠ b := by omega
  have ne_v_g : (w.heap.size + 1) ≠ b := by omega
  have ne_r_g : (w.heap.size + 2) ≠ b := by omega
  replace hB : Save b b w w0 := Save.of hB
  have cp : w0.cell? ⟨w.heap.size, 0, none⟩ = some (.pointer (some ⟨b, 0, none⟩))   := pp.cellIs rfl
  have hB0 : Below w.heap.size w w0 := ⟨hB.os, hB.tape, hB.output, hB.size, fun k hk => by
    by_cases e : k = b
    · subst e; unfold blk at hg g; rw [g, hg]
    · exact hB.block k hk (by omega)⟩
  replace hB := hB0
  go_wp2_with (first | (refine wpList_load_rowG ?hw _ _ rfl _ rfl _ _ _ _ v Try.underlying46 rfl ?hi ?_; (case hw => (first | rfl | (simp [Region.wanted, yielded]; done))); (case hi => (first | kernel_rfl | (rw [sec_size]; kernel_rfl)))) | (go_at_call 57; with_reducible refine (ST.out _ _ g).mono ?_; rintro e wz ⟨rfl, hb⟩; replace hB := hB.trans (hb.mono hB.size); replace r := r.below hb r.lt; clear hb) | (refine wpList_store_row rfl _ _ _ rfl _ rfl _ rfl _ _ r (by first | kernel_rfl | (rw [qfn_size]; kernel_rfl)) (by first | rfl | simp only [qfn_size]) (by first | exact qfn_one _ | rfl) ?_))
  refine bodyPost_ret (results_vec rfl _ _ _ _ _ _ _ rfl (r.row (qfn (fun _ => 0))) Try.underlying22 rfl (by first | kernel_rfl | (rw [qfn_size]; kernel_rfl))) rfl ?_
  refine ⟨?_, Below.setRow hB (by omega) _⟩
  rfl
end Go.Proofs.Ytjnocbjngojigaa
