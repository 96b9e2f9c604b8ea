/-
  Orbits: some results are as the document says (awake).
-/
import Derived.Test.YtnkjbdfhdenbcaaOrbK
set_option linter.unusedSimpArgs false
set_option linter.unusedVariables false
namespace Go.Proofs.Ytnkjbdfhdenbcaa
open Go.RowKit PM Dt
set_option maxRecDepth 100000 in
theorem small25_any (w : World) : Calls Try.prog 18 #[] w fun e w' => e = .returned (.agg #[.int .i64 8, .int .i64 16, .int .i64 64, .int .u32 0, .int .u32 0, .int .u32 0, .int .u32 0, .int .i64 805306368]) ∧ Below w.heap.size w w' := by
  go_enter Try.func18, Try.ntmps18
  go_wp2_with (fail)
  refine bodyPost_ret (results_cell_row rfl _ _ _ _ _ _ _ rfl (blk.new _ _ _) Try.underlying24 rfl (by kernel_rfl)) rfl ?_
  exact ⟨rfl, by go_grown⟩
theorem span_eq (w : World) : (Op.equalIn 10000 28 (.agg #[.int .i64 14, .int .i64 16]) (.agg #[.int .i64 14, .int .i64 16])).run Try.prog w = .ok true w := by kernel_rfl
theorem kpl (t : Int) (f : Nat → Int) (a b c : Int) (hf : OO f) (h : ∀ i, i < 3 → placeF f t i = of3 a b c i) (he : placeE f t = 0) (w : World) : Calls Try.prog 19 #[.agg (ofn f), .int .i64 t] w fun e w' => e = .returned (.tuple #[.agg #[.int .i64 a, .int .i64 b, .int .i64 c], .int .i64 0]) ∧ Below w.heap.size w w' := by
  have K := place_any f t w hf
  rw [vfn_congr h, he, ← of3_cells] at K
  exact K
theorem kdk (t : Int) (f : Nat → Int) (d : Bool) (hf : OO f) (h : darkB f t = d) (he : placeE f t = 0) (w : World) : Calls Try.prog 21 #[.agg (ofn f), .int .i64 t] w fun e w' => e = .returned (.tuple #[.bool d, .int .i64 0]) ∧ Below w.heap.size w w' := by
  have K := dark_any f t w hf
  rw [h, he] at K
  exact K
theorem spans2 {B : Nat} {w : World} {v : Value} {a b c d : Int} (h : Spans B w v [(a, b), (c, d)]) : ∃ g cap, v = .slice (some ⟨g, 0, none⟩) 2 cap ∧ w.cell? ⟨g, 2, none⟩ = some (.int .i64 c) ∧ w.cell? ⟨g, 3, none⟩ = some (.int .i64 d) := by
  obtain ⟨g, cap, rfl⟩ := ownsRow_succ (k := 1) (show w.ownsRow B 28 2 v (1 + 1) (flat [(a, b), (c, d)]) from h)
  have h' : w.ownsRow B 28 2 (.slice (some ⟨g, 0, none⟩) 2 cap) 2 (flat [(a, b), (c, d)]) := h
  exact ⟨g, cap, rfl, (row_cell h' (i := 2) rfl).1, (row_cell h' (i := 3) rfl).1⟩
theorem kwA (w : World) : Calls Try.prog 16 #[.agg (ofn osm), .agg (stn ost0), .int .i64 0, .int .i64 16] w fun e w' => ∃ v, e = .returned (.tuple #[v, .int .i64 0]) ∧ Spans w.heap.size w' v [(0, 3), (14, 16)] ∧ Below w.heap.size w w' := by
  have K := windows_any osm ost0 OO_osm SS_ost0 0 16 ⟨by decide, by decide⟩ ⟨by decide, by decide⟩ w
  rw [wlA, weA] at K
  exact K
set_option maxRecDepth 100000 in
set_option maxHeartbeats 2000000 in
theorem awake25_any  (w : World) : Calls Try.prog 15 #[] w fun e w' => e = .returned (.bool true) ∧ Below w.heap.size w w' := by
  have SMA := Lib.hid small25_any
  have K1 := Lib.hid (kpl 1 osm _ _ _ OO_osm pl_osm_1 (if_pos (by decide +kernel)))
  have K2 := Lib.hid (kdk 4 osm _ OO_osm dk4 (if_pos (by decide +kernel)))
  have K3 := Lib.hid kwA
  rw [← osm_cells] at K1 K2 K3
  rw [← ost0_cells] at K3
  have hq := vec_eq_self (of3 759250125 759250125 0)
  rw [← of3_cells] at hq
  have hs := span_eq
  have hB := Below.refl w.heap.size w
  go_enter Try.func15, Try.ntmps15
  go_upto_region 2 with (first
    | (go_at_call 18; with_reducible refine (SMA.out _).mono ?_; rintro e w1 ⟨rfl, hb⟩; replace hB := hB.trans (hb.mono hB.size); clear hb)
    | (go_at_call 19; with_reducible refine (K1.out _).mono ?_; rintro e w2 ⟨rfl, hb⟩; replace hB := hB.trans (hb.mono hB.size); clear hb))
  have r := blk.new w2 #[.int .i64 759250125, .int .i64 759250125, .int .i64 0] 39
  replace hB := hB.alloc hB.size (.cells #[.int .i64 759250125, .int .i64 759250125, .int .i64 0] 39)
  generalize w2.alloc (.cells #[.int .i64 759250125, .int .i64 759250125, .int .i64 0] 39) = w2x at *
  generalize w2.heap.size = r_b at *
  go_upto_region 3 with (first
    | (go_at_call 18; with_reducible refine (SMA.out _).mono ?_; rintro e w3 ⟨rfl, hb⟩; replace hB := hB.trans (hb.mono hB.size); replace r := r.below hb r.lt; clear hb)
    | (go_at_call 21; with_reducible refine (K2.out _).mono ?_; rintro e w4 ⟨rfl, hb⟩; replace hB := hB.trans (hb.mono hB.size); replace r := r.below hb r.lt; clear hb))
  go_upto_region 4 with (first
    | (go_at_call 18; with_reducible refine (SMA.out _).mono ?_; rintro e w5 ⟨rfl, hb⟩; replace hB := hB.trans (hb.mono hB.size); replace r := r.below hb r.lt; clear hb)
    | (go_at_call 16; with_reducible refine (K3.out _).mono ?_; rintro e w6 ⟨v, rfl, hS, hb⟩; obtain ⟨g1, cap1, rfl, c2, c3⟩ := spans2 hS; replace hB := hB.trans (hb.mono hB.size); replace r := r.below hb r.lt; clear hb))
  go_wp2_with (first
    | (refine wpList_load_rowG ?hw _ _ rfl _ rfl _ _ _ _ r Try.underlying39 rfl ?hi ?_; (case hw => (first | rfl | (simp [Region.wanted, yielded]; done))); (case hi => (first | kernel_rfl | (rw [vfn_size]; kernel_rfl)))))
  go_ret
  exact ⟨rfl, hB⟩
end Go.Proofs.Ytnkjbdfhdenbcaa
