/-
  Controls: within, New, Commanded.
-/
import Derived.Test.YtkmelddejdikgaaStM
import Derived.Test.YtkmelddejdikgaaBdA
set_option linter.unusedSimpArgs false
set_option linter.unusedVariables false
namespace Go.Proofs.Ytkmelddejdikgaa
open Go.RowKit PM Dt
theorem spdq_eq (f g : Nat → Int) (w : World) :
    (Op.equalIn 10000 22 (.agg (qfn f)) (.agg (qfn g))).run Try.prog w = .ok ((List.range 4).all fun j => f j == g j) w := by
  obtain ⟨i, hi⟩ : ∃ i, Try.prog.info? 2 = some i := Option.isSome_iff_exists.1 (by kernel_rfl)
  have hc : Try.prog.cellsOf 2 = 1 := by kernel_rfl
  exact run_equalIn_ints (P := Try.prog) Try.underlying22 hi hc Try.underlying2 f g (qfn f) (qfn g) (fun j hj => qfn_get _ hj) (fun j hj => qfn_get _ hj) 9998 w
set_option maxRecDepth 100000 in
set_option maxHeartbeats 2000000 in
theorem swithin_any (f : Nat → Int) (m : Int) (w : World) (h0 : 0 ≤ m) (hm : m ≤ 4398046511104) : Calls Try.prog 179 #[.agg (vfn f), .int .i64 m] w fun e w' => e = .returned (.bool (smallB f m)) ∧ Below w.heap.size w w' := by
  have hwm : wrap64 (-m) = -m := by unfold wrap64; omega
  clear h0 hm
  go_enter Try.func179, Try.ntmps179
  have p0 := blk.new w (vfn f) 31
  go_wp2_with ((refine wpList_load_rowG ?hw _ _ rfl _ rfl _ _ _ _ p0 Try.underlying31 rfl ?hi ?_; (case hw => (first | rfl | (simp [Region.wanted, yielded]; done))); (case hi => (rw [vfn_size]; kernel_rfl))))
  have hB0 : Below w.heap.size w (w.alloc (.cells (vfn f) 31)) := by go_grown
  clear p0
  generalize w.alloc (.cells (vfn f) 31) = w0 at *
  go_loopg [8] 3 (fun g iv wr => ∃ k : Nat, g + k = 3 ∧ iv = .int .i64 k ∧ Hid (∀ j, j < k → sb m (f j) = true) ∧ Below w.heap.size w wr)
  case atStart => exact ⟨0, rfl, rfl, fun j hj => by omega, hB0⟩
  case round =>
    clear hB0
    obtain ⟨k, hk, rfl, hall, hB⟩ := hrel
    by_cases hkn : k < 3
    · have hdk : decide ((k : Int) < 3) = true := decide_eq_true (by omega)
      have hdk' : decide (k < 3) = true := decide_eq_true (by omega)
      have hw3 : IntKind.i64.wrap ((k : Int) + 1) = ((k + 1 : Nat) : Int) := by rw [IntKind.wrap_i64]; omega
      have hix : Hid (∀ w, (Instr.index 31 (.agg (vfn f)) (.int .i64 k)).run Try.prog w = .ok (.int .i64 (f k)) w) := fun w => vidx3 f hkn w
      by_cases h1 : -m ≤ f k
      · have d1 : decide (f k < -m) = false := decide_eq_false (by omega)
        by_cases h2 : f k ≤ m
        · have d2 : decide (m < f k) = false := decide_eq_false (by omega)
          have HV := Lib.hid ((sb_iff _ _).2 ⟨h1, h2⟩)
          clear h1 h2
          go_wp2_with ((refine wpList_index ?hw _ _ _ rfl _ rfl k _ rfl rfl _ hix.out ?_; (case hw => (first | rfl | (simp [Region.wanted, yielded]; done)))))
          go_roundg (3 - (k + 1))
          case rel =>
            refine ⟨k + 1, by omega, rfl, fun j hj => ?_, hB⟩
            by_cases e : j = k
            · subst e; exact HV.out
            · exact hall.out j (by omega)
          case measure => omega
        · have d2 : decide (m < f k) = true := decide_eq_true (by omega)
          have HV := Lib.hid (show smallB f m = false from smallB_no hkn (by omega))
          clear h1 h2
          go_wp2_with ((refine wpList_index ?hw _ _ _ rfl _ rfl k _ rfl rfl _ hix.out ?_; (case hw => (first | rfl | (simp [Region.wanted, yielded]; done)))))
          go_ret
          exact ⟨by rw [HV.out]; rfl, hB⟩
      · have d1 : decide (f k < -m) = true := decide_eq_true (by omega)
        have HV := Lib.hid (show smallB f m = false from smallB_no hkn (by omega))
        clear h1
        go_wp2_with ((refine wpList_index ?hw _ _ _ rfl _ rfl k _ rfl rfl _ hix.out ?_; (case hw => (first | rfl | (simp [Region.wanted, yielded]; done)))))
        go_ret
        exact ⟨by rw [HV.out]; rfl, hB⟩
    · obtain rfl : k = 3 := by omega
      have HV := Lib.hid ((smallB_iff f m).2 hall.out)
      go_wp2_with (fail)
      go_ret
      exact ⟨by rw [HV.out]; rfl, hB⟩
set_option maxRecDepth 100000 in
set_option maxHeartbeats 2000000 in
theorem tnew_any  (w : World) : Calls Try.prog 84 #[] w fun e w' => ∃ b, e = .returned (.pointer (some ⟨b, 0, none⟩)) ∧ blk w' b (ssc SSt.zero) 205 ∧ w.heap.size ≤ b ∧ Below w.heap.size w w' := by
  have hB : Below w.heap.size w w := Below.refl _ _
  go_enter Try.func84, Try.ntmps84
  go_wp2_with (fail)
  rw [show #[Value.int .i64 0, .int .i64 0, .int .i64 0, .int .i64 0, .int .i64 0, .int .i64 0, .int .i64 0, .int .i64 0, .int .i64 0, .int .i64 0, .bool false, .bool true] = ssc SSt.zero from rfl]
  go_ret
  exact ⟨w.heap.size, rfl, blk.new _ _ _, Nat.le_refl _, hB.alloc hB.size _⟩
set_option maxRecDepth 100000 in
set_option maxHeartbeats 2000000 in
theorem tnone_any (X : SSt) (b : Nat) (w : World) (hg : blk w b (ssc X) 205) : Calls Try.prog 147 #[.pointer (some ⟨b, 0, none⟩)] w fun e w' => e = .returned (.bool false) ∧ w = w' := by
  have hc : w.cell? ⟨b, 11, none⟩ = some (.bool true) := hg.cellIs rfl
  clear hg
  go_enter Try.func147, Try.ntmps147
  go_wp2_with (fail)
  go_ret
  exact ⟨rfl, rfl⟩
set_option maxRecDepth 100000 in
set_option maxHeartbeats 2000000 in
theorem tcmd_any (X : SSt) (b : Nat) (w : World) (hg : blk w b (ssc X) 205) : Calls Try.prog 87 #[.pointer (some ⟨b, 0, none⟩)] w fun e w' => e = .returned (.agg (vfn X.D)) ∧ Below w.heap.size w w' := by
  have NN := Lib.hid (fun w' (hb : Below w.heap.size w w') => tnone_any X b w' (hg.below hb hg.lt))
  go_enter Try.func87, Try.ntmps87
  go_upto_region 1 with (fail)
  simp only [zero_vec]
  have r : blk (w.alloc (.cells (vfn fun _ => 0) 31)) w.heap.size (vfn fun _ => 0) 31 := blk.new _ _ _
  have hB : Below w.heap.size w (w.alloc (.cells (vfn fun _ => 0) 31)) := by go_grown
  generalize (w.alloc (.cells (vfn fun _ => 0) 31)) = w0 at *
  have g : blk w0 b (ssc X) 205 := hg.below hB hg.lt
  go_wp2_with (first
    | (go_at_call 147; with_reducible refine (NN.out _ hB).mono ?_; rintro e w9 ⟨rfl, rfl⟩)
    | (refine wpList_load_part ?hw _ _ rfl _ 0 rfl _ _ g (vfn X.D) (st_d X) _ Try.underlying31 rfl ?hi ?_; (case hw => (first | rfl | (simp [Region.wanted, yielded]; done))); (case hi => (rw [vfn_size]; kernel_rfl)))
    | (refine wpList_store_row rfl _ _ _ rfl _ rfl _ rfl _ _ r (by first | kernel_rfl | (rw [vfn_size]; kernel_rfl)) (by first | rfl | simp only [vfn_size]) (by first | exact vfn_one _ | rfl) ?_))
  refine bodyPost_ret (results_cell_row rfl _ _ _ _ _ _ _ rfl (r.row (vfn X.D)) Try.underlying31 rfl (by first | kernel_rfl | (rw [vfn_size]; kernel_rfl))) rfl ?_
  refine ⟨?_, Below.setRow hB (by omega) _⟩
  rfl
end Go.Proofs.Ytkmelddejdikgaa
