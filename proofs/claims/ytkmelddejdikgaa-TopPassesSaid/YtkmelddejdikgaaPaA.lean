/-
  The windows: follows.
-/
import Derived.Test.YtkmelddejdikgaaPaM
set_option linter.unusedSimpArgs false
set_option linter.unusedVariables false
namespace Go.Proofs.Ytkmelddejdikgaa
open Go.RowKit PM Dt Pa
set_option maxRecDepth 100000 in
set_option maxHeartbeats 2000000 in
theorem follows_any (f g : Nat → Int) (gap : Int) (w : World) (hf : 0 ≤ f 1 ∧ f 1 ≤ 1099511627776) (hg : 0 ≤ gap ∧ gap ≤ 1099511627776) : Calls Try.prog 74 #[.agg (wnc f), .agg (wnc g), .int .i64 gap] w fun e w' => e = .returned (.bool (folB f g gap)) ∧ Below w.heap.size w w' := by
  have hw : IntKind.i64.wrap (f 1 + gap) = f 1 + gap := by rw [IntKind.wrap_i64]; omega
  have hw0 : IntKind.i64.wrap (f 1 + 0) = f 1 := by rw [IntKind.wrap_i64]; omega
  have hw1 : IntKind.i64.wrap (f 1) = f 1 := by rw [IntKind.wrap_i64]; omega
  clear hf hg
  unfold folB
  by_cases hs : f 2 = g 2
  · skip
    have ds : decide (f 2 = g 2) = true := decide_eq_true hs
    simp only [if_pos hs]
    go_enter Try.func74, Try.ntmps74
    go_upto_region 1 with (fail)
    have x : blk ((w.alloc (.cells (wnc f) 72)).alloc (.cells (wnc g) 72)) w.heap.size (wnc f) 72 := (blk.new _ _ _).alloc _
    have y : blk ((w.alloc (.cells (wnc f) 72)).alloc (.cells (wnc g) 72)) (w.heap.size + 1) (wnc g) 72 := blk.new' (by simp)
    have hB : Below w.heap.size w ((w.alloc (.cells (wnc f) 72)).alloc (.cells (wnc g) 72)) := by go_grown
    generalize ((w.alloc (.cells (wnc f) 72)).alloc (.cells (wnc g) 72)) = w0 at *
    have cx0 : w0.cell? ⟨w.heap.size, 0, none⟩ = some (.int .i64 (f 0)) := x.cellIs rfl
    have cx1 : w0.cell? ⟨w.heap.size, 1, none⟩ = some (.int .i64 (f 1)) := x.cellIs rfl
    have cx2 : w0.cell? ⟨w.heap.size, 2, none⟩ = some (.int .i64 (f 2)) := x.cellIs rfl
    have cx3 : w0.cell? ⟨w.heap.size, 3, none⟩ = some (.int .i64 (f 3)) := x.cellIs rfl
    have cx4 : w0.cell? ⟨w.heap.size, 4, none⟩ = some (.int .i64 (f 4)) := x.cellIs rfl
    have cy0 : w0.cell? ⟨(w.heap.size + 1), 0, none⟩ = some (.int .i64 (g 0)) := y.cellIs rfl
    have cy1 : w0.cell? ⟨(w.heap.size + 1), 1, none⟩ = some (.int .i64 (g 1)) := y.cellIs rfl
    have cy2 : w0.cell? ⟨(w.heap.size + 1), 2, none⟩ = some (.int .i64 (g 2)) := y.cellIs rfl
    have cy3 : w0.cell? ⟨(w.heap.size + 1), 3, none⟩ = some (.int .i64 (g 3)) := y.cellIs rfl
    have cy4 : w0.cell? ⟨(w.heap.size + 1), 4, none⟩ = some (.int .i64 (g 4)) := y.cellIs rfl
    go_wp2_with (fail)
    go_ret
    refine ⟨?_, hB⟩
    first | rfl | (simp only [Int.add_zero]; rfl) | (congr 2; simp)
  · skip
    have ds : decide (f 2 = g 2) = false := decide_eq_false hs
    simp only [if_neg hs]
    go_enter Try.func74, Try.ntmps74
    go_upto_region 1 with (fail)
    have x : blk ((w.alloc (.cells (wnc f) 72)).alloc (.cells (wnc g) 72)) w.heap.size (wnc f) 72 := (blk.new _ _ _).alloc _
    have y : blk ((w.alloc (.cells (wnc f) 72)).alloc (.cells (wnc g) 72)) (w.heap.size + 1) (wnc g) 72 := blk.new' (by simp)
    have hB : Below w.heap.size w ((w.alloc (.cells (wnc f) 72)).alloc (.cells (wnc g) 72)) := by go_grown
    generalize ((w.alloc (.cells (wnc f) 72)).alloc (.cells (wnc g) 72)) = w0 at *
    have cx0 : w0.cell? ⟨w.heap.size, 0, none⟩ = some (.int .i64 (f 0)) := x.cellIs rfl
    have cx1 : w0.cell? ⟨w.heap.size, 1, none⟩ = some (.int .i64 (f 1)) := x.cellIs rfl
    have cx2 : w0.cell? ⟨w.heap.size, 2, none⟩ = some (.int .i64 (f 2)) := x.cellIs rfl
    have cx3 : w0.cell? ⟨w.heap.size, 3, none⟩ = some (.int .i64 (f 3)) := x.cellIs rfl
    have cx4 : w0.cell? ⟨w.heap.size, 4, none⟩ = some (.int .i64 (f 4)) := x.cellIs rfl
    have cy0 : w0.cell? ⟨(w.heap.size + 1), 0, none⟩ = some (.int .i64 (g 0)) := y.cellIs rfl
    have cy1 : w0.cell? ⟨(w.heap.size + 1), 1, none⟩ = some (.int .i64 (g 1)) := y.cellIs rfl
    have cy2 : w0.cell? ⟨(w.heap.size + 1), 2, none⟩ = some (.int .i64 (g 2)) := y.cellIs rfl
    have cy3 : w0.cell? ⟨(w.heap.size + 1), 3, none⟩ = some (.int .i64 (g 3)) := y.cellIs rfl
    have cy4 : w0.cell? ⟨(w.heap.size + 1), 4, none⟩ = some (.int .i64 (g 4)) := y.cellIs rfl
    go_wp2_with (fail)
    go_ret
    refine ⟨?_, hB⟩
    first | rfl | (simp only [Int.add_zero]; rfl) | (congr 2; simp)
end Go.Proofs.Ytkmelddejdikgaa
