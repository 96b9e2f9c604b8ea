/-
  Wheels: New.
-/
import Derived.Test.YtjnocbjngojigaaBdO
set_option linter.unusedSimpArgs false
set_option linter.unusedVariables false
namespace Go.Proofs.Ytjnocbjngojigaa
open Go.RowKit PM Dt
theorem widx (f : Nat → Int) {k : Nat} (h : k < 4) (w : World) : (Instr.index 22 (.agg (qfn f)) (.int .i64 k)).run Try.prog w = .ok (.int .i64 (f k)) w := by
  obtain ⟨i, hi⟩ : ∃ i, Try.prog.info? 2 = some i := Option.isSome_iff_exists.1 (by kernel_rfl)
  exact run_index_cell (P := Try.prog) (n := 4) Try.underlying22 Try.underlying2 rfl hi (by kernel_rfl) h (qfn_get f h) w
theorem newB_not {h : Nat → Int} {f : Int} {k : Nat} (hk : k < 4) (hb : whB h f k = false) : newB h f = false := by
  cases hn : newB h f with
  | false => rfl
  | true =>
    simp only [newB, Bool.and_eq_true] at hn
    obtain ⟨_, a, b, c, d⟩ := hn
    rcases (show k = 0 ∨ k = 1 ∨ k = 2 ∨ k = 3 by omega) with rfl | rfl | rfl | rfl <;> simp_all
theorem newB_all {h : Nat → Int} {f : Int} (hf : isW f = true) (hb : ∀ k, k < 4 → whB h f k = true) : newB h f = true := by
  simp only [newB, Bool.and_eq_true]
  exact ⟨hf, hb 0 (by omega), hb 1 (by omega), hb 2 (by omega), hb 3 (by omega)⟩
set_option maxRecDepth 100000 in
set_option maxHeartbeats 2000000 in
theorem is_any (f : Int) (w : World) : Calls Try.prog 78 #[.int .i64 f] w fun e w' => e = .returned (.bool (isW f)) ∧ Below w.heap.size w w' := by
  have hB : Below w.heap.size w w := Below.refl _ _
  unfold isW
  by_cases h1 : -1 ≤ f
  · have d1 : decide (-1 ≤ f) = true := decide_eq_true h1
    by_cases h2 : f ≤ 3
    · have d2 : decide (f < 4) = true := decide_eq_true (by omega)
      have d3 : decide (f ≤ 3) = true := decide_eq_true h2
      go_enter Try.func78, Try.ntmps78
      go_wp2_with (fail)
      go_ret
      exact ⟨by first | rfl | simp only [d1, d3] <;> rfl, hB⟩
    · have d2 : decide (f < 4) = false := decide_eq_false (by omega)
      have d3 : decide (f ≤ 3) = false := decide_eq_false h2
      go_enter Try.func78, Try.ntmps78
      go_wp2_with (fail)
      go_ret
      exact ⟨by first | rfl | simp only [d1, d3] <;> rfl, hB⟩
  · have d1 : decide (-1 ≤ f) = false := decide_eq_false h1
    go_enter Try.func78, Try.ntmps78
    go_wp2_with (fail)
    go_ret
    exact ⟨by first | rfl | simp only [d1] <;> rfl, hB⟩
set_option maxRecDepth 100000 in
set_option maxHeartbeats 4000000 in
theorem wnew_no (h : Nat → Int) (f : Int) (w : World) (hn : newB h f = false) : Calls Try.prog 42 #[.agg (qfn h), .int .i64 f] w fun e w' => e = .returned (.tuple #[.pointer none, .int .i64 2]) ∧ Below w.heap.size w w' := by
  have IS := Lib.hid (fun w => is_any f w)
  by_cases hf : isW f = true
  · rw [hf] at IS
    go_enter Try.func42, Try.ntmps42
    go_upto_region 1 with (fail)
    have v : blk (w.alloc (.cells (qfn h) 22)) w.heap.size (qfn h) 22 := blk.new _ _ _
    have hB : Below w.heap.size w (w.alloc (.cells (qfn h) 22)) := by go_grown
    generalize (w.alloc (.cells (qfn h) 22)) = w0 at *
    go_wp2_with (first
      | (refine wpList_load_rowG ?hw _ _ rfl _ rfl _ _ _ _ v Try.underlying22 rfl ?hi ?_; (case hw => (first | rfl | (simp [Region.wanted, yielded]; done))); (case hi => (first | kernel_rfl | (rw [qfn_size]; kernel_rfl))))
      | (go_at_call 78; with_reducible refine (IS.out _).mono ?_; rintro e w1 ⟨rfl, hb⟩; replace hB := hB.trans (hb.mono hB.size); replace v := v.below hb v.lt; clear hb))
    go_loopg [12] 4 (fun g iv wr => ∃ k : Nat, g + k = 4 ∧ iv = .int .i64 k ∧ Hid (∀ j, j < k → whB h f j = true) ∧ blk wr w.heap.size (qfn h) 22 ∧ Below w.heap.size w wr)
    case atStart => exact ⟨0, rfl, rfl, fun j hj => by omega, v, hB⟩
    case round =>
      clear hB v
      obtain ⟨k, hk, rfl, hall, v, hB⟩ := hrel
      by_cases hkn : k < 4
      · have hdk : decide ((k : Int) < 4) = true := decide_eq_true (by omega)
        have hdk' : decide (k < 4) = true := decide_eq_true (by omega)
        have hw3 : IntKind.i64.wrap ((k : Int) + 1) = ((k + 1 : Nat) : Int) := by rw [IntKind.wrap_i64]; omega
        have hix : Hid (∀ w, (Instr.index 22 (.agg (qfn h)) (.int .i64 k)).run Try.prog w = .ok (.int .i64 (h k)) w) := fun w => widx h hkn w
        by_cases h1 : h k < -16777216
        · have d1 : decide (h k < -16777216) = true := decide_eq_true h1
          have HV : whB h f k = false := by unfold whB; rw [decide_eq_false (show ¬ -16777216 ≤ h k by omega)]; rfl
          replace HV := Lib.hid HV
          clear h1
          go_wp2_with ((refine wpList_index ?hw _ _ _ rfl _ rfl k _ rfl rfl _ hix.out ?_; (case hw => (first | rfl | (simp [Region.wanted, yielded]; done)))))
          go_ret2
          exact ⟨rfl, hB⟩
        · have d1 : decide (h k < -16777216) = false := decide_eq_false h1
          by_cases h2 : 16777216 < h k
          · have d2 : decide (16777216 < h k) = true := decide_eq_true h2
            have HV : whB h f k = false := by unfold whB; rw [decide_eq_false (show ¬ h k ≤ 16777216 by omega)]; simp
            replace HV := Lib.hid HV
            clear h1 h2
            go_wp2_with ((refine wpList_index ?hw _ _ _ rfl _ rfl k _ rfl rfl _ hix.out ?_; (case hw => (first | rfl | (simp [Region.wanted, yielded]; done)))))
            go_ret2
            exact ⟨rfl, hB⟩
          · have d2 : decide (16777216 < h k) = false := decide_eq_false h2
            have e1 : decide (-16777216 ≤ h k) = true := decide_eq_true (by omega)
            have e2 : decide (h k ≤ 16777216) = true := decide_eq_true (by omega)
            by_cases h3 : (k : Int) = f
            · have d3 : decide ((k : Int) = f) = true := decide_eq_true h3
              by_cases h4 : h k = 0
              · have d4 : (h k != 0) = false := by simp [h4]
                have d5 : decide (h k = 0) = true := decide_eq_true h4
                have HV : whB h f k = true := by unfold whB; rw [e1, e2, d3, d5]; rfl
                clear e1 e2 d3 d5
                subst h3
                replace HV := Lib.hid HV
                clear h1 h2 h4
                go_wp2_with ((refine wpList_index ?hw _ _ _ rfl _ rfl k _ rfl rfl _ hix.out ?_; (case hw => (first | rfl | (simp [Region.wanted, yielded]; done)))))
                go_roundg (4 - (k + 1))
                case rel =>
                  refine ⟨k + 1, by omega, rfl, fun j hj => ?_, v, hB⟩
                  by_cases e : j = k
                  · subst e; exact HV.out
                  · exact hall.out j (by omega)
                case measure => omega
              · have d4 : (h k != 0) = true := by simp [h4]
                have d5 : decide (h k = 0) = false := decide_eq_false h4
                have HV : whB h f k = false := by unfold whB; rw [e1, e2, d3, d5]; rfl
                clear e1 e2 d3 d5
                subst h3
                replace HV := Lib.hid HV
                clear h1 h2 h4
                go_wp2_with ((refine wpList_index ?hw _ _ _ rfl _ rfl k _ rfl rfl _ hix.out ?_; (case hw => (first | rfl | (simp [Region.wanted, yielded]; done)))))
                go_ret2
                exact ⟨rfl, hB⟩
            · have d3 : decide ((k : Int) = f) = false := decide_eq_false h3
              have d6 : ((k : Int) == f) = false := by simp [h3]
              have HV : whB h f k = true := by unfold whB; rw [e1, e2, d3]; simp
              clear e1 e2
              replace HV := Lib.hid HV
              clear h1 h2 h3
              go_wp2_with ((refine wpList_index ?hw _ _ _ rfl _ rfl k _ rfl rfl _ hix.out ?_; (case hw => (first | rfl | (simp [Region.wanted, yielded]; done)))))
              go_roundg (4 - (k + 1))
              case rel =>
                refine ⟨k + 1, by omega, rfl, fun j hj => ?_, v, hB⟩
                by_cases e : j = k
                · subst e; exact HV.out
                · exact hall.out j (by omega)
              case measure => omega
      · obtain rfl : k = 4 := by omega
        exact absurd (newB_all hf hall.out) (by rw [hn]; decide)
  · rw [Bool.not_eq_true] at hf
    rw [hf] at IS
    go_enter Try.func42, Try.ntmps42
    go_upto_region 1 with (fail)
    have v : blk (w.alloc (.cells (qfn h) 22)) w.heap.size (qfn h) 22 := blk.new _ _ _
    have hB : Below w.heap.size w (w.alloc (.cells (qfn h) 22)) := by go_grown
    generalize (w.alloc (.cells (qfn h) 22)) = w0 at *
    go_wp2_with (first
      | (refine wpList_load_rowG ?hw _ _ rfl _ rfl _ _ _ _ v Try.underlying22 rfl ?hi ?_; (case hw => (first | rfl | (simp [Region.wanted, yielded]; done))); (case hi => (first | kernel_rfl | (rw [qfn_size]; kernel_rfl))))
      | (go_at_call 78; with_reducible refine (IS.out _).mono ?_; rintro e w1 ⟨rfl, hb⟩; replace hB := hB.trans (hb.mono hB.size); replace v := v.below hb v.lt; clear hb))
    go_ret2
    exact ⟨rfl, hB⟩
set_option maxRecDepth 100000 in
set_option maxHeartbeats 4000000 in
theorem wnew_ok (h : Nat → Int) (f : Int) (w : World) (hn : newB h f = true) : Calls Try.prog 42 #[.agg (qfn h), .int .i64 f] w fun e w' => ∃ b, e = .returned (.tuple #[.pointer (some ⟨b, 0, none⟩), .int .i64 0]) ∧ blk w' b (setc (h, f)) 126 ∧ w.heap.size ≤ b ∧ Below w.heap.size w w' := by
  have IS := Lib.hid (fun w => is_any f w)
  by_cases hf : isW f = true
  · rw [hf] at IS
    go_enter Try.func42, Try.ntmps42
    go_upto_region 1 with (fail)
    have v : blk (w.alloc (.cells (qfn h) 22)) w.heap.size (qfn h) 22 := blk.new _ _ _
    have hB : Below w.heap.size w (w.alloc (.cells (qfn h) 22)) := by go_grown
    generalize (w.alloc (.cells (qfn h) 22)) = w0 at *
    go_wp2_with (first
      | (refine wpList_load_rowG ?hw _ _ rfl _ rfl _ _ _ _ v Try.underlying22 rfl ?hi ?_; (case hw => (first | rfl | (simp [Region.wanted, yielded]; done))); (case hi => (first | kernel_rfl | (rw [qfn_size]; kernel_rfl))))
      | (go_at_call 78; with_reducible refine (IS.out _).mono ?_; rintro e w1 ⟨rfl, hb⟩; replace hB := hB.trans (hb.mono hB.size); replace v := v.below hb v.lt; clear hb))
    go_loopg [12] 4 (fun g iv wr => ∃ k : Nat, g + k = 4 ∧ iv = .int .i64 k ∧ Hid (∀ j, j < k → whB h f j = true) ∧ blk wr w.heap.size (qfn h) 22 ∧ Below w.heap.size w wr)
    case atStart => exact ⟨0, rfl, rfl, fun j hj => by omega, v, hB⟩
    case round =>
      clear hB v
      obtain ⟨k, hk, rfl, hall, v, hB⟩ := hrel
      by_cases hkn : k < 4
      · have hdk : decide ((k : Int) < 4) = true := decide_eq_true (by omega)
        have hdk' : decide (k < 4) = true := decide_eq_true (by omega)
        have hw3 : IntKind.i64.wrap ((k : Int) + 1) = ((k + 1 : Nat) : Int) := by rw [IntKind.wrap_i64]; omega
        have hix : Hid (∀ w, (Instr.index 22 (.agg (qfn h)) (.int .i64 k)).run Try.prog w = .ok (.int .i64 (h k)) w) := fun w => widx h hkn w
        by_cases h1 : h k < -16777216
        · have d1 : decide (h k < -16777216) = true := decide_eq_true h1
          have HV : whB h f k = false := by unfold whB; rw [decide_eq_false (show ¬ -16777216 ≤ h k by omega)]; rfl
          exact absurd (newB_not hkn HV) (by rw [hn]; decide)
        · have d1 : decide (h k < -16777216) = false := decide_eq_false h1
          by_cases h2 : 16777216 < h k
          · have d2 : decide (16777216 < h k) = true := decide_eq_true h2
            have HV : whB h f k = false := by unfold whB; rw [decide_eq_false (show ¬ h k ≤ 16777216 by omega)]; simp
            exact absurd (newB_not hkn HV) (by rw [hn]; decide)
          · have d2 : decide (16777216 < h k) = false := decide_eq_false h2
            have e1 : decide (-16777216 ≤ h k) = true := decide_eq_true (by omega)
            have e2 : decide (h k ≤ 16777216) = true := decide_eq_true (by omega)
            by_cases h3 : (k : Int) = f
            · have d3 : decide ((k : Int) = f) = true := decide_eq_true h3
              by_cases h4 : h k = 0
              · have d4 : (h k != 0) = false := by simp [h4]
                have d5 : decide (h k = 0) = true := decide_eq_true h4
                have HV : whB h f k = true := by unfold whB; rw [e1, e2, d3, d5]; rfl
                clear e1 e2 d3 d5
                subst h3
                replace HV := Lib.hid HV
                clear h1 h2 h4
                go_wp2_with ((refine wpList_index ?hw _ _ _ rfl _ rfl k _ rfl rfl _ hix.out ?_; (case hw => (first | rfl | (simp [Region.wanted, yielded]; done)))))
                go_roundg (4 - (k + 1))
                case rel =>
                  refine ⟨k + 1, by omega, rfl, fun j hj => ?_, v, hB⟩
                  by_cases e : j = k
                  · subst e; exact HV.out
                  · exact hall.out j (by omega)
                case measure => omega
              · have d4 : (h k != 0) = true := by simp [h4]
                have d5 : decide (h k = 0) = false := decide_eq_false h4
                have HV : whB h f k = false := by unfold whB; rw [e1, e2, d3, d5]; rfl
                clear e1 e2 d3 d5
                subst h3
                exact absurd (newB_not hkn HV) (by rw [hn]; decide)
            · have d3 : decide ((k : Int) = f) = false := decide_eq_false h3
              have d6 : ((k : Int) == f) = false := by simp [h3]
              have HV : whB h f k = true := by unfold whB; rw [e1, e2, d3]; simp
              clear e1 e2
              replace HV := Lib.hid HV
              clear h1 h2 h3
              go_wp2_with ((refine wpList_index ?hw _ _ _ rfl _ rfl k _ rfl rfl _ hix.out ?_; (case hw => (first | rfl | (simp [Region.wanted, yielded]; done)))))
              go_roundg (4 - (k + 1))
              case rel =>
                refine ⟨k + 1, by omega, rfl, fun j hj => ?_, v, hB⟩
                by_cases e : j = k
                · subst e; exact HV.out
                · exact hall.out j (by omega)
              case measure => omega
      · obtain rfl : k = 4 := by omega
        unfold qfn at v
        go_wp2_with ((refine wpList_load_rowG ?hw _ _ rfl _ rfl _ _ _ _ v Try.underlying22 rfl ?hi ?_; (case hw => (first | rfl | (simp [Region.wanted, yielded]; done))); (case hi => (first | kernel_rfl | (rw [qfn_size]; kernel_rfl)))))
        rw [show #[Value.int .i64 (h 0), .int .i64 (h 1), .int .i64 (h 2), .int .i64 (h 3), .int .i64 f, .bool true] = setc (h, f) from rfl]
        go_ret2
        exact ⟨wr.heap.size, rfl, blk.new _ _ _, hB.size, hB.alloc hB.size _⟩
  · rw [Bool.not_eq_true] at hf
    unfold newB at hn
    rw [hf, Bool.false_and] at hn
    cases hn
end Go.Proofs.Ytjnocbjngojigaa
