/-
  The spans in view: Windows of the package: errors, and the whole.
-/
import Derived.Test.YtkmelddejdikgaaWinC
set_option linter.unusedSimpArgs false
set_option linter.unusedVariables false
namespace Go.Proofs.Ytkmelddejdikgaa
open Go.RowKit PM Dt Go.Shelf
attribute [local go_sem] Oper.semAt_some
set_option maxRecDepth 100000 in
set_option maxHeartbeats 4000000 in
theorem win_err (f g : Nat → Int) (hf : OO f) (hg : SS g) (a b E : Int) (w : World) (ha : statE f g a = E) (hx : E = 2 ∨ E = 0 ∧ (okT b = false ∨ okT b = true ∧ (b < a ∨ a ≤ b ∧ -9223372036854775808 ≤ b - a ∧ b - a ≤ 9223372036854775807 ∧ 20000 < b - a))) :
    Calls Try.prog 69 #[.agg (ofn f), .agg (stn g), .int .i64 a, .int .i64 b] w fun e w' => e = .returned (.tuple #[.slice none 0 0, .int .i64 2]) ∧ Below w.heap.size w w' := by
  refine (callsIn_wide (n := 5)).1 ?_
  have SA := Lib.hid (fun w => station_any f g a w hf hg)
  rw [ha] at SA
  generalize statF f g a = X at *
  unfold ofn stn vfn at SA
  have TM := Lib.hid (fun w => time_any b w)
  rcases hx with rfl | ⟨rfl, hb | ⟨hb, h1 | ⟨h1, h2, h3, h4⟩⟩⟩
  · skip
    refine callsIn_of_wp_marks Try.func69 rfl trivial ?_ rfl
    simp only [Try.ntmps69, List.size_toArray, List.length_cons, List.length_nil, Nat.reduceAdd, Nat.reduceSub, Array.replicate_succ, Array.replicate_zero, List.push_toArray, List.append_toArray, List.nil_append, List.cons_append]
    gi_upto_region 1 with (fail)
    have O0 : blk ((w.alloc (.cells (ofn f) 50)).alloc (.cells (stn g) 63)) w.heap.size (ofn f) 50 := (blk.new _ _ _).alloc _
    have S0 : blk ((w.alloc (.cells (ofn f) 50)).alloc (.cells (stn g) 63)) (w.heap.size + 1) (stn g) 63 := blk.new' (by simp)
    have hB : Below w.heap.size w ((w.alloc (.cells (ofn f) 50)).alloc (.cells (stn g) 63)) := by go_grown
    have hz : ((w.alloc (.cells (ofn f) 50)).alloc (.cells (stn g) 63)).heap.size = w.heap.size + 2 := by simp
    generalize ((w.alloc (.cells (ofn f) 50)).alloc (.cells (stn g) 63)) = w0 at *
    have o0 : w0.cell? ⟨w.heap.size, 0, none⟩ = some (.int .i64 (f 0)) := O0.cellIs rfl
    have o1 : w0.cell? ⟨w.heap.size, 1, none⟩ = some (.int .i64 (f 1)) := O0.cellIs rfl
    have o2 : w0.cell? ⟨w.heap.size, 2, none⟩ = some (.int .i64 (f 2)) := O0.cellIs rfl
    have o3 : w0.cell? ⟨w.heap.size, 3, none⟩ = some (.int .u32 (f 3)) := O0.cellIs rfl
    have o4 : w0.cell? ⟨w.heap.size, 4, none⟩ = some (.int .u32 (f 4)) := O0.cellIs rfl
    have o5 : w0.cell? ⟨w.heap.size, 5, none⟩ = some (.int .u32 (f 5)) := O0.cellIs rfl
    have o6 : w0.cell? ⟨w.heap.size, 6, none⟩ = some (.int .u32 (f 6)) := O0.cellIs rfl
    have o7 : w0.cell? ⟨w.heap.size, 7, none⟩ = some (.int .i64 (f 7)) := O0.cellIs rfl
    have s0 : w0.cell? ⟨w.heap.size + 1, 0, none⟩ = some (.int .u32 (g 0)) := S0.cellIs rfl
    have s1 : w0.cell? ⟨w.heap.size + 1, 1, none⟩ = some (.int .u32 (g 1)) := S0.cellIs rfl
    have s2 : w0.cell? ⟨w.heap.size + 1, 2, none⟩ = some (.int .i64 (g 2)) := S0.cellIs rfl
    gi_upto_region 2 with (fail)
    refine ⟨trivial, ?_⟩
    refine (callsIn_wide.2 (SA.out w0)).mono ?_
    rintro e w2 ⟨rfl, hb2⟩
    replace hB := hB.trans (hb2.mono hB.size)
    replace O0 := O0.below hb2 O0.lt
    replace S0 := S0.below hb2 S0.lt
    have hz2 : w.heap.size + 2 ≤ w2.heap.size := by rw [← hz]; exact hb2.size
    clear o0 o1 o2 o3 o4 o5 o6 o7 s0 s1 s2
    clear hb2 hz
    gi_upto_region 2 with (fail)
    have hz3 : w.heap.size + 2 ≤ (w2.alloc (.cells #[.int .i64 (X 0), .int .i64 (X 1), .int .i64 (X 2)] 31)).heap.size := by simp; omega
    replace O0 := O0.alloc (.cells #[.int .i64 (X 0), .int .i64 (X 1), .int .i64 (X 2)] 31)
    replace S0 := S0.alloc (.cells #[.int .i64 (X 0), .int .i64 (X 1), .int .i64 (X 2)] 31)
    replace hB := hB.alloc hB.size (.cells #[.int .i64 (X 0), .int .i64 (X 1), .int .i64 (X 2)] 31)
    generalize (w2.alloc (.cells #[.int .i64 (X 0), .int .i64 (X 1), .int .i64 (X 2)] 31)) = w3 at *
    generalize w2.heap.size = bx at *
    clear hz2
    gi_wp2
    refine ⟨trivial, ?_⟩
    gi_wp2
    exact ⟨_, results_tmp2 rfl _ _ _, rfl, hB⟩
  · rw [hb] at TM
    refine callsIn_of_wp_marks Try.func69 rfl trivial ?_ rfl
    simp only [Try.ntmps69, List.size_toArray, List.length_cons, List.length_nil, Nat.reduceAdd, Nat.reduceSub, Array.replicate_succ, Array.replicate_zero, List.push_toArray, List.append_toArray, List.nil_append, List.cons_append]
    gi_upto_region 1 with (fail)
    have O0 : blk ((w.alloc (.cells (ofn f) 50)).alloc (.cells (stn g) 63)) w.heap.size (ofn f) 50 := (blk.new _ _ _).alloc _
    have S0 : blk ((w.alloc (.cells (ofn f) 50)).alloc (.cells (stn g) 63)) (w.heap.size + 1) (stn g) 63 := blk.new' (by simp)
    have hB : Below w.heap.size w ((w.alloc (.cells (ofn f) 50)).alloc (.cells (stn g) 63)) := by go_grown
    have hz : ((w.alloc (.cells (ofn f) 50)).alloc (.cells (stn g) 63)).heap.size = w.heap.size + 2 := by simp
    generalize ((w.alloc (.cells (ofn f) 50)).alloc (.cells (stn g) 63)) = w0 at *
    have o0 : w0.cell? ⟨w.heap.size, 0, none⟩ = some (.int .i64 (f 0)) := O0.cellIs rfl
    have o1 : w0.cell? ⟨w.heap.size, 1, none⟩ = some (.int .i64 (f 1)) := O0.cellIs rfl
    have o2 : w0.cell? ⟨w.heap.size, 2, none⟩ = some (.int .i64 (f 2)) := O0.cellIs rfl
    have o3 : w0.cell? ⟨w.heap.size, 3, none⟩ = some (.int .u32 (f 3)) := O0.cellIs rfl
    have o4 : w0.cell? ⟨w.heap.size, 4, none⟩ = some (.int .u32 (f 4)) := O0.cellIs rfl
    have o5 : w0.cell? ⟨w.heap.size, 5, none⟩ = some (.int .u32 (f 5)) := O0.cellIs rfl
    have o6 : w0.cell? ⟨w.heap.size, 6, none⟩ = some (.int .u32 (f 6)) := O0.cellIs rfl
    have o7 : w0.cell? ⟨w.heap.size, 7, none⟩ = some (.int .i64 (f 7)) := O0.cellIs rfl
    have s0 : w0.cell? ⟨w.heap.size + 1, 0, none⟩ = some (.int .u32 (g 0)) := S0.cellIs rfl
    have s1 : w0.cell? ⟨w.heap.size + 1, 1, none⟩ = some (.int .u32 (g 1)) := S0.cellIs rfl
    have s2 : w0.cell? ⟨w.heap.size + 1, 2, none⟩ = some (.int .i64 (g 2)) := S0.cellIs rfl
    gi_upto_region 2 with (fail)
    refine ⟨trivial, ?_⟩
    refine (callsIn_wide.2 (SA.out w0)).mono ?_
    rintro e w2 ⟨rfl, hb2⟩
    replace hB := hB.trans (hb2.mono hB.size)
    replace O0 := O0.below hb2 O0.lt
    replace S0 := S0.below hb2 S0.lt
    have hz2 : w.heap.size + 2 ≤ w2.heap.size := by rw [← hz]; exact hb2.size
    clear o0 o1 o2 o3 o4 o5 o6 o7 s0 s1 s2
    clear hb2 hz
    gi_upto_region 2 with (fail)
    have hz3 : w.heap.size + 2 ≤ (w2.alloc (.cells #[.int .i64 (X 0), .int .i64 (X 1), .int .i64 (X 2)] 31)).heap.size := by simp; omega
    replace O0 := O0.alloc (.cells #[.int .i64 (X 0), .int .i64 (X 1), .int .i64 (X 2)] 31)
    replace S0 := S0.alloc (.cells #[.int .i64 (X 0), .int .i64 (X 1), .int .i64 (X 2)] 31)
    replace hB := hB.alloc hB.size (.cells #[.int .i64 (X 0), .int .i64 (X 1), .int .i64 (X 2)] 31)
    generalize (w2.alloc (.cells #[.int .i64 (X 0), .int .i64 (X 1), .int .i64 (X 2)] 31)) = w3 at *
    generalize w2.heap.size = bx at *
    clear hz2
    gi_wp2_with (refine ⟨trivial, ?_⟩; gi_at_call 129; refine (callsIn_wide.2 (TM.out w3)).mono ?_; rintro e wt ⟨rfl, rfl⟩)
    exact ⟨_, results_tmp2 rfl _ _ _, rfl, hB⟩
  · rw [hb] at TM
    have d1 : decide (b < a) = true := decide_eq_true h1
    refine callsIn_of_wp_marks Try.func69 rfl trivial ?_ rfl
    simp only [Try.ntmps69, List.size_toArray, List.length_cons, List.length_nil, Nat.reduceAdd, Nat.reduceSub, Array.replicate_succ, Array.replicate_zero, List.push_toArray, List.append_toArray, List.nil_append, List.cons_append]
    gi_upto_region 1 with (fail)
    have O0 : blk ((w.alloc (.cells (ofn f) 50)).alloc (.cells (stn g) 63)) w.heap.size (ofn f) 50 := (blk.new _ _ _).alloc _
    have S0 : blk ((w.alloc (.cells (ofn f) 50)).alloc (.cells (stn g) 63)) (w.heap.size + 1) (stn g) 63 := blk.new' (by simp)
    have hB : Below w.heap.size w ((w.alloc (.cells (ofn f) 50)).alloc (.cells (stn g) 63)) := by go_grown
    have hz : ((w.alloc (.cells (ofn f) 50)).alloc (.cells (stn g) 63)).heap.size = w.heap.size + 2 := by simp
    generalize ((w.alloc (.cells (ofn f) 50)).alloc (.cells (stn g) 63)) = w0 at *
    have o0 : w0.cell? ⟨w.heap.size, 0, none⟩ = some (.int .i64 (f 0)) := O0.cellIs rfl
    have o1 : w0.cell? ⟨w.heap.size, 1, none⟩ = some (.int .i64 (f 1)) := O0.cellIs rfl
    have o2 : w0.cell? ⟨w.heap.size, 2, none⟩ = some (.int .i64 (f 2)) := O0.cellIs rfl
    have o3 : w0.cell? ⟨w.heap.size, 3, none⟩ = some (.int .u32 (f 3)) := O0.cellIs rfl
    have o4 : w0.cell? ⟨w.heap.size, 4, none⟩ = some (.int .u32 (f 4)) := O0.cellIs rfl
    have o5 : w0.cell? ⟨w.heap.size, 5, none⟩ = some (.int .u32 (f 5)) := O0.cellIs rfl
    have o6 : w0.cell? ⟨w.heap.size, 6, none⟩ = some (.int .u32 (f 6)) := O0.cellIs rfl
    have o7 : w0.cell? ⟨w.heap.size, 7, none⟩ = some (.int .i64 (f 7)) := O0.cellIs rfl
    have s0 : w0.cell? ⟨w.heap.size + 1, 0, none⟩ = some (.int .u32 (g 0)) := S0.cellIs rfl
    have s1 : w0.cell? ⟨w.heap.size + 1, 1, none⟩ = some (.int .u32 (g 1)) := S0.cellIs rfl
    have s2 : w0.cell? ⟨w.heap.size + 1, 2, none⟩ = some (.int .i64 (g 2)) := S0.cellIs rfl
    gi_upto_region 2 with (fail)
    refine ⟨trivial, ?_⟩
    refine (callsIn_wide.2 (SA.out w0)).mono ?_
    rintro e w2 ⟨rfl, hb2⟩
    replace hB := hB.trans (hb2.mono hB.size)
    replace O0 := O0.below hb2 O0.lt
    replace S0 := S0.below hb2 S0.lt
    have hz2 : w.heap.size + 2 ≤ w2.heap.size := by rw [← hz]; exact hb2.size
    clear o0 o1 o2 o3 o4 o5 o6 o7 s0 s1 s2
    clear hb2 hz
    gi_upto_region 2 with (fail)
    have hz3 : w.heap.size + 2 ≤ (w2.alloc (.cells #[.int .i64 (X 0), .int .i64 (X 1), .int .i64 (X 2)] 31)).heap.size := by simp; omega
    replace O0 := O0.alloc (.cells #[.int .i64 (X 0), .int .i64 (X 1), .int .i64 (X 2)] 31)
    replace S0 := S0.alloc (.cells #[.int .i64 (X 0), .int .i64 (X 1), .int .i64 (X 2)] 31)
    replace hB := hB.alloc hB.size (.cells #[.int .i64 (X 0), .int .i64 (X 1), .int .i64 (X 2)] 31)
    generalize (w2.alloc (.cells #[.int .i64 (X 0), .int .i64 (X 1), .int .i64 (X 2)] 31)) = w3 at *
    generalize w2.heap.size = bx at *
    clear hz2
    gi_wp2_with (refine ⟨trivial, ?_⟩; gi_at_call 129; refine (callsIn_wide.2 (TM.out w3)).mono ?_; rintro e wt ⟨rfl, rfl⟩)
    exact ⟨_, results_tmp2 rfl _ _ _, rfl, hB⟩
  · rw [hb] at TM
    have d1 : decide (b < a) = false := decide_eq_false (by omega)
    have d2 : decide (20000 < b - a) = true := decide_eq_true h4
    have w1 : IntKind.i64.wrap (b - a) = b - a := by rw [IntKind.wrap_i64]; omega
    refine callsIn_of_wp_marks Try.func69 rfl trivial ?_ rfl
    simp only [Try.ntmps69, List.size_toArray, List.length_cons, List.length_nil, Nat.reduceAdd, Nat.reduceSub, Array.replicate_succ, Array.replicate_zero, List.push_toArray, List.append_toArray, List.nil_append, List.cons_append]
    gi_upto_region 1 with (fail)
    have O0 : blk ((w.alloc (.cells (ofn f) 50)).alloc (.cells (stn g) 63)) w.heap.size (ofn f) 50 := (blk.new _ _ _).alloc _
    have S0 : blk ((w.alloc (.cells (ofn f) 50)).alloc (.cells (stn g) 63)) (w.heap.size + 1) (stn g) 63 := blk.new' (by simp)
    have hB : Below w.heap.size w ((w.alloc (.cells (ofn f) 50)).alloc (.cells (stn g) 63)) := by go_grown
    have hz : ((w.alloc (.cells (ofn f) 50)).alloc (.cells (stn g) 63)).heap.size = w.heap.size + 2 := by simp
    generalize ((w.alloc (.cells (ofn f) 50)).alloc (.cells (stn g) 63)) = w0 at *
    have o0 : w0.cell? ⟨w.heap.size, 0, none⟩ = some (.int .i64 (f 0)) := O0.cellIs rfl
    have o1 : w0.cell? ⟨w.heap.size, 1, none⟩ = some (.int .i64 (f 1)) := O0.cellIs rfl
    have o2 : w0.cell? ⟨w.heap.size, 2, none⟩ = some (.int .i64 (f 2)) := O0.cellIs rfl
    have o3 : w0.cell? ⟨w.heap.size, 3, none⟩ = some (.int .u32 (f 3)) := O0.cellIs rfl
    have o4 : w0.cell? ⟨w.heap.size, 4, none⟩ = some (.int .u32 (f 4)) := O0.cellIs rfl
    have o5 : w0.cell? ⟨w.heap.size, 5, none⟩ = some (.int .u32 (f 5)) := O0.cellIs rfl
    have o6 : w0.cell? ⟨w.heap.size, 6, none⟩ = some (.int .u32 (f 6)) := O0.cellIs rfl
    have o7 : w0.cell? ⟨w.heap.size, 7, none⟩ = some (.int .i64 (f 7)) := O0.cellIs rfl
    have s0 : w0.cell? ⟨w.heap.size + 1, 0, none⟩ = some (.int .u32 (g 0)) := S0.cellIs rfl
    have s1 : w0.cell? ⟨w.heap.size + 1, 1, none⟩ = some (.int .u32 (g 1)) := S0.cellIs rfl
    have s2 : w0.cell? ⟨w.heap.size + 1, 2, none⟩ = some (.int .i64 (g 2)) := S0.cellIs rfl
    gi_upto_region 2 with (fail)
    refine ⟨trivial, ?_⟩
    refine (callsIn_wide.2 (SA.out w0)).mono ?_
    rintro e w2 ⟨rfl, hb2⟩
    replace hB := hB.trans (hb2.mono hB.size)
    replace O0 := O0.below hb2 O0.lt
    replace S0 := S0.below hb2 S0.lt
    have hz2 : w.heap.size + 2 ≤ w2.heap.size := by rw [← hz]; exact hb2.size
    clear o0 o1 o2 o3 o4 o5 o6 o7 s0 s1 s2
    clear hb2 hz
    gi_upto_region 2 with (fail)
    have hz3 : w.heap.size + 2 ≤ (w2.alloc (.cells #[.int .i64 (X 0), .int .i64 (X 1), .int .i64 (X 2)] 31)).heap.size := by simp; omega
    replace O0 := O0.alloc (.cells #[.int .i64 (X 0), .int .i64 (X 1), .int .i64 (X 2)] 31)
    replace S0 := S0.alloc (.cells #[.int .i64 (X 0), .int .i64 (X 1), .int .i64 (X 2)] 31)
    replace hB := hB.alloc hB.size (.cells #[.int .i64 (X 0), .int .i64 (X 1), .int .i64 (X 2)] 31)
    generalize (w2.alloc (.cells #[.int .i64 (X 0), .int .i64 (X 1), .int .i64 (X 2)] 31)) = w3 at *
    generalize w2.heap.size = bx at *
    clear hz2
    gi_wp2_with (refine ⟨trivial, ?_⟩; gi_at_call 129; refine (callsIn_wide.2 (TM.out w3)).mono ?_; rintro e wt ⟨rfl, rfl⟩)
    exact ⟨_, results_tmp2 rfl _ _ _, rfl, hB⟩
/-- What Windows answers. -/
def winOk (f g : Nat → Int) (a b : Int) : Prop := statE f g a = 0 ∧ okT b = true ∧ a ≤ b ∧ b - a ≤ 20000
instance (f g : Nat → Int) (a b : Int) : Decidable (winOk f g a b) := by unfold winOk; infer_instance
def winL (f g : Nat → Int) (a b : Int) : List (Int × Int) := if winOk f g a b then win (tick f g a (b - a).toNat) else []
def winE (f g : Nat → Int) (a b : Int) : Int := if winOk f g a b then 0 else 2
theorem statE_01 (f g : Nat → Int) (t : Int) : statE f g t = 0 ∧ okT t = true ∨ statE f g t = 2 := by
  unfold statE
  cases okO f <;> cases okT t <;> cases okS g <;> simp
/-- What is handed back owns the spans. -/
def Spans (B : Nat) (w : World) (v : Value) (L : List (Int × Int)) : Prop := w.ownsRow B 53 2 v L.length (flat L)
theorem windows_any (f g : Nat → Int) (hf : OO f) (hg : SS g) (a b : Int) (ha : I64 a) (hb : I64 b) (w : World) :
    Calls Try.prog 69 #[.agg (ofn f), .agg (stn g), .int .i64 a, .int .i64 b] w fun e w' => ∃ v, e = .returned (.tuple #[v, .int .i64 (winE f g a b)]) ∧ Spans w.heap.size w' v (winL f g a b) ∧ Below w.heap.size w w' := by
  have bad : (statE f g a = 2 ∨ statE f g a = 0 ∧ (okT b = false ∨ okT b = true ∧ (b < a ∨ a ≤ b ∧ -9223372036854775808 ≤ b - a ∧ b - a ≤ 9223372036854775807 ∧ 20000 < b - a))) → ¬ winOk f g a b → Calls Try.prog 69 #[.agg (ofn f), .agg (stn g), .int .i64 a, .int .i64 b] w fun e w' => ∃ v, e = .returned (.tuple #[v, .int .i64 (winE f g a b)]) ∧ Spans w.heap.size w' v (winL f g a b) ∧ Below w.heap.size w w' := by
    intro hx hn
    have e1 : winE f g a b = 2 := if_neg hn
    have e2 : winL f g a b = [] := if_neg hn
    rw [e1, e2]
    exact (win_err f g hf hg a b _ w rfl hx).mono fun e w' h => ⟨_, h.1, World.ownsRow_nil _ _ _ _, h.2⟩
  by_cases ho : winOk f g a b
  · obtain ⟨h1, h2, h3, h4⟩ := ho
    have e1 : winE f g a b = 0 := if_pos ⟨h1, h2, h3, h4⟩
    have e2 : winL f g a b = win (tick f g a (b - a).toNat) := if_pos ⟨h1, h2, h3, h4⟩
    rw [e1, e2]
    rcases statE_01 f g a with ⟨_, ht⟩ | h
    · exact win_ok f g hf hg a b w h1 h2 ht h3 h4
    · rw [h1] at h; cases h
  · refine bad ?_ ho
    rcases statE_01 f g a with ⟨h, ht⟩ | h
    · refine .inr ⟨h, ?_⟩
      have hT := (okT_iff a).1 ht
      cases hc : okT b with
      | false => exact .inl rfl
      | true =>
        have hb' := (okT_iff b).1 hc
        refine .inr ⟨rfl, ?_⟩
        by_cases h5 : b < a
        · exact .inl h5
        · refine .inr ⟨by omega, by omega, by omega, ?_⟩
          apply Classical.byContradiction; intro h6
          exact ho ⟨h, hc, by omega, by omega⟩
    · exact .inl h
end Go.Proofs.Ytkmelddejdikgaa
