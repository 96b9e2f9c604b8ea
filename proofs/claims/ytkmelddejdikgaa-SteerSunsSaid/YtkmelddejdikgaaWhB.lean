/-
  Wheels: New. Wheels: what they do.
-/
import Derived.Test.YtkmelddejdikgaaBdO
set_option linter.unusedSimpArgs false
set_option linter.unusedVariables false
namespace Go.Proofs.Ytkmelddejdikgaa
open Go.RowKit PM Dt
theorem widx (f : Nat → Int) {k : Nat} (h : k < 4) (w : World) : (Instr.index 22 (.agg (qfn f)) (.int .i64 k)).run Try.prog w = .ok (.int .i64 (f k)) w := by
  obtain ⟨i, hi⟩ : ∃ i, Try.prog.info? 2 = some i := Option.isSome_iff_exists.1 (by kernel_rfl)
  exact run_index_cell (P := Try.prog) (n := 4) Try.underlying22 Try.underlying2 rfl hi (by kernel_rfl) h (qfn_get f h) w
theorem newB_not {h : Nat → Int} {f : Int} {k : Nat} (hk : k < 4) (hb : whB h f k = false) : newB h f = false := by
  cases hn : newB h f with
  | false => rfl
  | true =>
    simp only [newB, Bool.and_eq_true] at hn
    obtain ⟨_, a, b, c, d⟩ := hn
    rcases (show k = 0 ∨ k = 1 ∨ k = 2 ∨ k = 3 by omega) with rfl | rfl | rfl | rfl <;> simp_all
theorem newB_all {h : Nat → Int} {f : Int} (hf : isW f = true) (hb : ∀ k, k < 4 → whB h f k = true) : newB h f = true := by
  simp only [newB, Bool.and_eq_true]
  exact ⟨hf, hb 0 (by omega), hb 1 (by omega), hb 2 (by omega), hb 3 (by omega)⟩
set_option maxRecDepth 100000 in
set_option maxHeartbeats 2000000 in
theorem is_any (f : Int) (w : World) : Calls Try.prog 178 #[.int .i64 f] w fun e w' => e = .returned (.bool (isW f)) ∧ Below w.heap.size w w' := by
  have hB : Below w.heap.size w w := Below.refl _ _
  unfold isW
  by_cases h1 : -1 ≤ f
  · have d1 : decide (-1 ≤ f) = true := decide_eq_true h1
    by_cases h2 : f ≤ 3
    · have d2 : decide (f < 4) = true := decide_eq_true (by omega)
      have d3 : decide (f ≤ 3) = true := decide_eq_true h2
      go_enter Try.func178, Try.ntmps178
      go_wp2_with (fail)
      go_ret
      exact ⟨by first | rfl | simp only [d1, d3] <;> rfl, hB⟩
    · have d2 : decide (f < 4) = false := decide_eq_false (by omega)
      have d3 : decide (f ≤ 3) = false := decide_eq_false h2
      go_enter Try.func178, Try.ntmps178
      go_wp2_with (fail)
      go_ret
      exact ⟨by first | rfl | simp only [d1, d3] <;> rfl, hB⟩
  · have d1 : decide (-1 ≤ f) = false := decide_eq_false h1
    go_enter Try.func178, Try.ntmps178
    go_wp2_with (fail)
    go_ret
    exact ⟨by first | rfl | simp only [d1] <;> rfl, hB⟩
set_option maxRecDepth 100000 in
set_option maxHeartbeats 4000000 in
theorem wnew_no (h : Nat → Int) (f : Int) (w : World) (hn : newB h f = false) : Calls Try.prog 140 #[.agg (qfn h), .int .i64 f] w fun e w' => e = .returned (.tuple #[.pointer none, .int .i64 2]) ∧ Below w.heap.size w w' := by
  have IS := Lib.hid (fun w => is_any f w)
  by_cases hf : isW f = true
  · rw [hf] at IS
    go_enter Try.func140, Try.ntmps140
    go_upto_region 1 with (fail)
    have v : blk (w.alloc (.cells (qfn h) 22)) w.heap.size (qfn h) 22 := blk.new _ _ _
    have hB : Below w.heap.size w (w.alloc (.cells (qfn h) 22)) := by go_grown
    generalize (w.alloc (.cells (qfn h) 22)) = w0 at *
    go_wp2_with (first
      | (refine wpList_load_rowG ?hw _ _ rfl _ rfl _ _ _ _ v Try.underlying22 rfl ?hi ?_; (case hw => (first | rfl | (simp [Region.wanted, yielded]; done))); (case hi => (first | kernel_rfl | (rw [qfn_size]; kernel_rfl))))
      | (go_at_call 178; with_reducible refine (IS.out _).mono ?_; rintro e w1 ⟨rfl, hb⟩; replace hB := hB.trans (hb.mono hB.size); replace v := v.below hb v.lt; clear hb))
    go_loopg [12] 4 (fun g iv wr => ∃ k : Nat, g + k = 4 ∧ iv = .int .i64 k ∧ Hid (∀ j, j < k → whB h f j = true) ∧ blk wr w.heap.size (qfn h) 22 ∧ Below w.heap.size w wr)
    case atStart => exact ⟨0, rfl, rfl, fun j hj => by omega, v, hB⟩
    case round =>
      clear hB v
      obtain ⟨k, hk, rfl, hall, v, hB⟩ := hrel
      by_cases hkn : k < 4
      · have hdk : decide ((k : Int) < 4) = true := decide_eq_true (by omega)
        have hdk' : decide (k < 4) = true := decide_eq_true (by omega)
        have hw3 : IntKind.i64.wrap ((k : Int) + 1) = ((k + 1 : Nat) : Int) := by rw [IntKind.wrap_i64]; omega
        have hix : Hid (∀ w, (Instr.index 22 (.agg (qfn h)) (.int .i64 k)).run Try.prog w = .ok (.int .i64 (h k)) w) := fun w => widx h hkn w
        by_cases h1 : h k < -16777216
        · have d1 : decide (h k < -16777216) = true := decide_eq_true h1
          have HV : whB h f k = false := by unfold whB; rw [decide_eq_false (show ¬ -16777216 ≤ h k by omega)]; rfl
          replace HV := Lib.hid HV
          clear h1
          go_wp2_with ((refine wpList_index ?hw _ _ _ rfl _ rfl k _ rfl rfl _ hix.out ?_; (case hw => (first | rfl | (simp [Region.wanted, yielded]; done)))))
          go_ret2
          exact ⟨rfl, hB⟩
        · have d1 : decide (h k < -16777216) = false := decide_eq_false h1
          by_cases h2 : 16777216 < h k
          · have d2 : decide (16777216 < h k) = true := decide_eq_true h2
            have HV : whB h f k = false := by unfold whB; rw [decide_eq_false (show ¬ h k ≤ 16777216 by omega)]; simp
            replace HV := Lib.hid HV
            clear h1 h2
            go_wp2_with ((refine wpList_index ?hw _ _ _ rfl _ rfl k _ rfl rfl _ hix.out ?_; (case hw => (first | rfl | (simp [Region.wanted, yielded]; done)))))
            go_ret2
            exact ⟨rfl, hB⟩
          · have d2 : decide (16777216 < h k) = false := decide_eq_false h2
            have e1 : decide (-16777216 ≤ h k) = true := decide_eq_true (by omega)
            have e2 : decide (h k ≤ 16777216) = true := decide_eq_true (by omega)
            by_cases h3 : (k : Int) = f
            · have d3 : decide ((k : Int) = f) = true := decide_eq_true h3
              by_cases h4 : h k = 0
              · have d4 : (h k != 0) = false := by simp [h4]
                have d5 : decide (h k = 0) = true := decide_eq_true h4
                have HV : whB h f k = true := by unfold whB; rw [e1, e2, d3, d5]; rfl
                clear e1 e2 d3 d5
                subst h3
                replace HV := Lib.hid HV
                clear h1 h2 h4
                go_wp2_with ((refine wpList_index ?hw _ _ _ rfl _ rfl k _ rfl rfl _ hix.out ?_; (case hw => (first | rfl | (simp [Region.wanted, yielded]; done)))))
                go_roundg (4 - (k + 1))
                case rel =>
                  refine ⟨k + 1, by omega, rfl, fun j hj => ?_, v, hB⟩
                  by_cases e : j = k
                  · subst e; exact HV.out
                  · exact hall.out j (by omega)
                case measure => omega
              · have d4 : (h k != 0) = true := by simp [h4]
                have d5 : decide (h k = 0) = false := decide_eq_false h4
                have HV : whB h f k = false := by unfold whB; rw [e1, e2, d3, d5]; rfl
                clear e1 e2 d3 d5
                subst h3
                replace HV := Lib.hid HV
                clear h1 h2 h4
                go_wp2_with ((refine wpList_index ?hw _ _ _ rfl _ rfl k _ rfl rfl _ hix.out ?_; (case hw => (first | rfl | (simp [Region.wanted, yielded]; done)))))
                go_ret2
                exact ⟨rfl, hB⟩
            · have d3 : decide ((k : Int) = f) = false := decide_eq_false h3
              have d6 : ((k : Int) == f) = false := by simp [h3]
              have HV : whB h f k = true := by unfold whB; rw [e1, e2, d3]; simp
              clear e1 e2
              replace HV := Lib.hid HV
              clear h1 h2 h3
              go_wp2_with ((refine wpList_index ?hw _ _ _ rfl _ rfl k _ rfl rfl _ hix.out ?_; (case hw => (first | rfl | (simp [Region.wanted, yielded]; done)))))
              go_roundg (4 - (k + 1))
              case rel =>
                refine ⟨k + 1, by omega, rfl, fun j hj => ?_, v, hB⟩
                by_cases e : j = k
                · subst e; exact HV.out
                · exact hall.out j (by omega)
              case measure => omega
      · obtain rfl : k = 4 := by omega
        exact absurd (newB_all hf hall.out) (by rw [hn]; decide)
  · rw [Bool.not_eq_true] at hf
    rw [hf] at IS
    go_enter Try.func140, Try.ntmps140
    go_upto_region 1 with (fail)
    have v : blk (w.alloc (.cells (qfn h) 22)) w.heap.size (qfn h) 22 := blk.new _ _ _
    have hB : Below w.heap.size w (w.alloc (.cells (qfn h) 22)) := by go_grown
    generalize (w.alloc (.cells (qfn h) 22)) = w0 at *
    go_wp2_with (first
      | (refine wpList_load_rowG ?hw _ _ rfl _ rfl _ _ _ _ v Try.underlying22 rfl ?hi ?_; (case hw => (first | rfl | (simp [Region.wanted, yielded]; done))); (case hi => (first | kernel_rfl | (rw [qfn_size]; kernel_rfl))))
      | (go_at_call 178; with_reducible refine (IS.out _).mono ?_; rintro e w1 ⟨rfl, hb⟩; replace hB := hB.trans (hb.mono hB.size); replace v := v.below hb v.lt; clear hb))
    go_ret2
    exact ⟨rfl, hB⟩
set_option maxRecDepth 100000 in
set_option maxHeartbeats 4000000 in
theorem wnew_ok (h : Nat → Int) (f : Int) (w : World) (hn : newB h f = true) : Calls Try.prog 140 #[.agg (qfn h), .int .i64 f] w fun e w' => ∃ b, e = .returned (.tuple #[.pointer (some ⟨b, 0, none⟩), .int .i64 0]) ∧ blk w' b (setc (h, f)) 230 ∧ w.heap.size ≤ b ∧ Below w.heap.size w w' := by
  have IS := Lib.hid (fun w => is_any f w)
  by_cases hf : isW f = true
  · rw [hf] at IS
    go_enter Try.func140, Try.ntmps140
    go_upto_region 1 with (fail)
    have v : blk (w.alloc (.cells (qfn h) 22)) w.heap.size (qfn h) 22 := blk.new _ _ _
    have hB : Below w.heap.size w (w.alloc (.cells (qfn h) 22)) := by go_grown
    generalize (w.alloc (.cells (qfn h) 22)) = w0 at *
    go_wp2_with (first
      | (refine wpList_load_rowG ?hw _ _ rfl _ rfl _ _ _ _ v Try.underlying22 rfl ?hi ?_; (case hw => (first | rfl | (simp [Region.wanted, yielded]; done))); (case hi => (first | kernel_rfl | (rw [qfn_size]; kernel_rfl))))
      | (go_at_call 178; with_reducible refine (IS.out _).mono ?_; rintro e w1 ⟨rfl, hb⟩; replace hB := hB.trans (hb.mono hB.size); replace v := v.below hb v.lt; clear hb))
    go_loopg [12] 4 (fun g iv wr => ∃ k : Nat, g + k = 4 ∧ iv = .int .i64 k ∧ Hid (∀ j, j < k → whB h f j = true) ∧ blk wr w.heap.size (qfn h) 22 ∧ Below w.heap.size w wr)
    case atStart => exact ⟨0, rfl, rfl, fun j hj => by omega, v, hB⟩
    case round =>
      clear hB v
      obtain ⟨k, hk, rfl, hall, v, hB⟩ := hrel
      by_cases hkn : k < 4
      · have hdk : decide ((k : Int) < 4) = true := decide_eq_true (by omega)
        have hdk' : decide (k < 4) = true := decide_eq_true (by omega)
        have hw3 : IntKind.i64.wrap ((k : Int) + 1) = ((k + 1 : Nat) : Int) := by rw [IntKind.wrap_i64]; omega
        have hix : Hid (∀ w, (Instr.index 22 (.agg (qfn h)) (.int .i64 k)).run Try.prog w = .ok (.int .i64 (h k)) w) := fun w => widx h hkn w
        by_cases h1 : h k < -16777216
        · have d1 : decide (h k < -16777216) = true := decide_eq_true h1
          have HV : whB h f k = false := by unfold whB; rw [decide_eq_false (show ¬ -16777216 ≤ h k by omega)]; rfl
          exact absurd (newB_not hkn HV) (by rw [hn]; decide)
        · have d1 : decide (h k < -16777216) = false := decide_eq_false h1
          by_cases h2 : 16777216 < h k
          · have d2 : decide (16777216 < h k) = true := decide_eq_true h2
            have HV : whB h f k = false := by unfold whB; rw [decide_eq_false (show ¬ h k ≤ 16777216 by omega)]; simp
            exact absurd (newB_not hkn HV) (by rw [hn]; decide)
          · have d2 : decide (16777216 < h k) = false := decide_eq_false h2
            have e1 : decide (-16777216 ≤ h k) = true := decide_eq_true (by omega)
            have e2 : decide (h k ≤ 16777216) = true := decide_eq_true (by omega)
            by_cases h3 : (k : Int) = f
            · have d3 : decide ((k : Int) = f) = true := decide_eq_true h3
              by_cases h4 : h k = 0
              · have d4 : (h k != 0) = false := by simp [h4]
                have d5 : decide (h k = 0) = true := decide_eq_true h4
                have HV : whB h f k = true := by unfold whB; rw [e1, e2, d3, d5]; rfl
                clear e1 e2 d3 d5
                subst h3
                replace HV := Lib.hid HV
                clear h1 h2 h4
                go_wp2_with ((refine wpList_index ?hw _ _ _ rfl _ rfl k _ rfl rfl _ hix.out ?_; (case hw => (first | rfl | (simp [Region.wanted, yielded]; done)))))
                go_roundg (4 - (k + 1))
                case rel =>
                  refine ⟨k + 1, by omega, rfl, fun j hj => ?_, v, hB⟩
                  by_cases e : j = k
                  · subst e; exact HV.out
                  · exact hall.out j (by omega)
                case measure => omega
              · have d4 : (h k != 0) = true := by simp [h4]
                have d5 : decide (h k = 0) = false := decide_eq_false h4
                have HV : whB h f k = false := by unfold whB; rw [e1, e2, d3, d5]; rfl
                clear e1 e2 d3 d5
                subst h3
                exact absurd (newB_not hkn HV) (by rw [hn]; decide)
            · have d3 : decide ((k : Int) = f) = false := decide_eq_false h3
              have d6 : ((k : Int) == f) = false := by simp [h3]
              have HV : whB h f k = true := by unfold whB; rw [e1, e2, d3]; simp
              clear e1 e2
              replace HV := Lib.hid HV
              clear h1 h2 h3
              go_wp2_with ((refine wpList_index ?hw _ _ _ rfl _ rfl k _ rfl rfl _ hix.out ?_; (case hw => (first | rfl | (simp [Region.wanted, yielded]; done)))))
              go_roundg (4 - (k + 1))
              case rel =>
                refine ⟨k + 1, by omega, rfl, fun j hj => ?_, v, hB⟩
                by_cases e : j = k
                · subst e; exact HV.out
                · exact hall.out j (by omega)
              case measure => omega
      · obtain rfl : k = 4 := by omega
        unfold qfn at v
        go_wp2_with ((refine wpList_load_rowG ?hw _ _ rfl _ rfl _ _ _ _ v Try.underlying22 rfl ?hi ?_; (case hw => (first | rfl | (simp [Region.wanted, yielded]; done))); (case hi => (first | kernel_rfl | (rw [qfn_size]; kernel_rfl)))))
        rw [show #[Value.int .i64 (h 0), .int .i64 (h 1), .int .i64 (h 2), .int .i64 (h 3), .int .i64 f, .bool true] = setc (h, f) from rfl]
        go_ret2
        exact ⟨wr.heap.size, rfl, blk.new _ _ _, hB.size, hB.alloc hB.size _⟩
  · rw [Bool.not_eq_true] at hf
    unfold newB at hn
    rw [hf, Bool.false_and] at hn
    cases hn
end Go.Proofs.Ytkmelddejdikgaa
namespace Go.Proofs.Ytkmelddejdikgaa
open Go.RowKit PM Dt
theorem vfn_of (F : Nat → Int) : #[Value.int .i64 (F 0), .int .i64 (F 1), .int .i64 (F 2)] = vfn F := by unfold vfn; rfl
set_option maxRecDepth 100000 in
set_option maxHeartbeats 2000000 in
theorem fric_any (h : Int) (w : World) (hh : -16777216 ≤ h ∧ h ≤ 16777216) : Calls Try.prog 188 #[.int .i64 h] w fun e w' => e = .returned (.int .i64 (frW h)) ∧ Below w.heap.size w w' := by
  have hB : Below w.heap.size w w := Below.refl _ _
  have hf := frW_bd hh
  unfold frW at hf ⊢
  have e1 : IntKind.i64.wrap (h.tdiv 1024) = h.tdiv 1024 := by rw [IntKind.wrap_i64]; omega
  clear hh hf
  go_enter Try.func188, Try.ntmps188
  go_wp2_with (fail)
  go_ret
  exact ⟨rfl, hB⟩
set_option maxRecDepth 100000 in
set_option maxHeartbeats 2000000 in
theorem snone_any (h : Nat → Int) (f : Int) (b : Nat) (w : World) (hg : blk w b (setc (h, f)) 230) : Calls Try.prog 187 #[.pointer (some ⟨b, 0, none⟩)] w fun e w' => e = .returned (.bool false) ∧ w = w' := by
  have hc : w.cell? ⟨b, 5, none⟩ = some (.bool true) := hg.cellIs rfl
  clear hg
  go_enter Try.func187, Try.ntmps187
  go_wp2_with (fail)
  go_ret
  exact ⟨rfl, rfl⟩
set_option maxRecDepth 100000 in
set_option maxHeartbeats 2000000 in
theorem sfailed_any (h : Nat → Int) (f : Int) (b : Nat) (w : World) (hg : blk w b (setc (h, f)) 230) : Calls Try.prog 155 #[.pointer (some ⟨b, 0, none⟩)] w fun e w' => e = .returned (.int .i64 f) ∧ Below w.heap.size w w' := by
  have hB : Below w.heap.size w w := Below.refl _ _
  have NN := Lib.hid (fun w' (hb : Below w.heap.size w w') => snone_any h f b w' (hg.below hb hg.lt))
  have hc : w.cell? ⟨b, 4, none⟩ = some (.int .i64 f) := hg.cellIs rfl
  clear hg
  go_enter Try.func155, Try.ntmps155
  go_wp2_with (first
    | (go_at_call 187; with_reducible refine (NN.out _ hB).mono ?_; rintro e w9 ⟨rfl, rfl⟩))
  go_ret
  exact ⟨rfl, hB⟩
set_option maxRecDepth 100000 in
set_option maxHeartbeats 2000000 in
theorem sspeeds_any (h : Nat → Int) (f : Int) (b : Nat) (w : World) (hg : blk w b (setc (h, f)) 230) : Calls Try.prog 154 #[.pointer (some ⟨b, 0, none⟩)] w fun e w' => e = .returned (.agg (qfn h)) ∧ Below w.heap.size w w' := by
  have NN := Lib.hid (fun w' (hb : Below w.heap.size w w') => snone_any h f b w' (hg.below hb hg.lt))
  go_enter Try.func154, Try.ntmps154
  go_upto_region 1 with (fail)
  simp only [zero_spd]
  have r : blk (w.alloc (.cells (qfn fun _ => 0) 22)) w.heap.size (qfn fun _ => 0) 22 := blk.new _ _ _
  have hB : Below w.heap.size w (w.alloc (.cells (qfn fun _ => 0) 22)) := by go_grown
  generalize (w.alloc (.cells (qfn fun _ => 0) 22)) = w0 at *
  have g : blk w0 b (setc (h, f)) 230 := hg.below hB hg.lt
  have gl := hg.lt
  clear hg
  go_upto_region 3 with (first
    | (refine wpList_load_rowG ?hw _ _ rfl _ rfl _ _ _ _ r Try.underlying22 rfl ?hi ?_; (case hw => (first | rfl | (simp [Region.wanted, yielded]; done))); (case hi => (first | kernel_rfl | (rw [qfn_size]; kernel_rfl))))
    | (go_at_call 187; with_reducible refine (NN.out _ hB).mono ?_; rintro e w9 ⟨rfl, rfl⟩))
  have ne_r_g : w.heap.size ≠ b := by omega
  have lt_r := r.lt
  have lt_g := g.lt
  have hW0 : w.heap.size ≤ w0.heap.size := by simpa using hB.size
  apply wp_region_Q 7 [0, 1, 3, 7, 15, 31, 63] [5] [_, _, _, _, _, (fun p => .pointer (some ⟨p 5, 0, none⟩)), (fun _ => undef)] (fun p L w' => w0.heap.size ≤ w'.heap.size ∧ Below w.heap.size w w' ∧ blk w' w.heap.size (qfn fun _ => 0) 22 ∧ blk w' b (setc (h, f)) 230 ∧ (L 5 = true → w0.heap.size ≤ p 5 ∧ blk w' (p 5) (bif L 6 then (qfn h) else (qfn fun _ => 0)) 22)) _ [(0, 7), (1, 8), (2, 9), (3, 10), (4, 11), (5, 3)] [0, 1, 2, 3, 4, 5, 6]
  case hn => rfl
  case hB => kernel_rfl
  case hds => kernel_rfl
  case hA => (intro p; simp only [putsD, Act.put, sIT, sCZ, sCS, gCZ, gCS]; exact rfl)
  case h0 => exact fun p => ⟨Nat.le_refl _, hB, r, g, fun h => absurd h (by decide)⟩
  case hmore => exact fun p L w1 w2 ⟨hsz, hB, r, g, h_x⟩ hm => ⟨Nat.le_trans hsz hm.size, hB.trans (hm.mono (Nat.le_trans hW0 hsz)), r.below hm r.lt, g.below hm g.lt, fun hl => ⟨(h_x hl).1, (h_x hl).2.below hm (h_x hl).2.lt⟩⟩
  case hs =>
    intro more
    refine stepV 0 rfl rfl (fun _ _ _ h => h) ?_ ?_
    · intros; go_simp; exact ⟨rfl, rfl⟩
    refine stepV 1 rfl rfl (fun _ _ _ h => h) ?_ ?_
    · intros; go_simp; exact ⟨rfl, rfl⟩
    refine stepV 2 rfl rfl (fun _ _ _ h => h) ?_ ?_
    · intros; go_simp; exact ⟨rfl, rfl⟩
    refine stepV 3 rfl rfl (fun _ _ _ h => h) ?_ ?_
    · intros; go_simp; exact ⟨rfl, rfl⟩
    refine stepV 4 rfl rfl (fun _ _ _ h => h) ?_ ?_
    · rintro p L w1 ⟨hsz, hB, r, g, h_x⟩ hk
      have L6 : L 6 = false := hk.2.2 6 rfl
      exact valR_part _ _ rfl _ 0 rfl _ _ g (qfn h) (set_h h f) _ Try.underlying22 rfl (by rw [qfn_size]; kernel_rfl) rfl
    refine AllI.cons ?_ ?_
    · refine stepI_alloc 5 rfl (fun p => rfl) rfl (qfn fun _ => 0) 22 (fun p => rfl) ?_ ?_
      · intro p w1
        go_simp
        first | rfl | rw [zero_spd]
      rintro p L w1 ⟨hsz, hB, r, g, h_x⟩ hk
      have L6 : L 6 = false := hk.2.2 6 rfl
      refine ⟨Nat.le_trans hsz (by simp), hB.alloc (Nat.le_trans (by first | exact hW0 | (have := hB.size; simp at this ⊢; omega)) hsz) _, r.alloc _, g.alloc _, fun _ => ⟨hsz, ?_⟩⟩
      rw [show upL L 5 6 = false from L6]
      exact blk.new _ _ _
    refine AllI.cons ?_ ?_
    · refine stepI_store 6 rfl (fun p => rfl) (fun p => rfl) _ _ _ rfl (fun p => p 5) 0 (fun p => rfl) (fun p => (qfn h)) (fun p => rfl) (fun p => (qfn fun _ => 0)) (fun p => (qfn h)) 22 (fun p => over_qq _ _) (fun p => by first | (rw [qfn_size, qfn_size]; decide) | simp [qfn_size, qfn_size]) (fun p => by rw [qfn_size]; kernel_rfl) (fun p => qfn_one _) ?_ ?_
      · rintro p L w1 ⟨hsz, hB, r, g, h_x⟩ hk
        have L6 : L 6 = false := hk.1
        have hh := (h_x (hk.2.1 5 rfl)).2
        rw [L6] at hh
        try simp only [cond_true, cond_false] at hh
        exact hh
      · rintro p L w1 ⟨hsz, hB, r, g, h_x⟩ hk
        have L6 : L 6 = false := hk.1
        skip
        have hp := h_x (hk.2.1 5 rfl)
        refine ⟨(by simpa using hsz), Below.setRow hB (by first | exact Nat.le_trans hW0 hp.1 | exact ge_x | omega | (have := hB.size; simp at this ⊢; omega)) _, r.rowOther (by first | exact Nat.ne_of_lt (Nat.lt_of_lt_of_le lt_r hp.1) | omega) _, g.rowOther (by first | exact Nat.ne_of_lt (Nat.lt_of_lt_of_le lt_g hp.1) | omega) _, fun _ => ⟨hp.1, ?_⟩⟩
        rw [show upL L 6 6 = true from rfl]
        exact hp.2.row _
    exact AllI.nil
  case hV0 =>
    intro p q
    refine AllI.cons ?_ ?_
    · skip
      iterate 7 (refine AllI.cons (by first | exact .inl rfl | (refine .inr ?_; simp only [gCZ, gCS]; done) | exact .inr rfl) ?_)
      exact AllI.nil
    exact AllI.nil
  case he =>
  clear hB r g
  rintro p w0r ⟨hsz, hB, r, g, h_x⟩
  obtain ⟨le_x, x⟩ := h_x rfl
  clear h_x
  replace x : blk w0r (p 5) (qfn h) 22 := x
  have ne_r_x : w.heap.size ≠ p 5 := Nat.ne_of_lt (Nat.lt_of_lt_of_le lt_r le_x)
  have ne_g_x : b ≠ p 5 := Nat.ne_of_lt (Nat.lt_of_lt_of_le lt_g le_x)
  have ge_x : w.heap.size ≤ p 5 := Nat.le_trans hW0 le_x
  generalize p 5 = x_b at *
  clear lt_r lt_g hsz hW0
  go_wp2_with (first
    | (refine wpList_load_rowG ?hw _ _ rfl _ rfl _ _ _ _ x Try.underlying22 rfl ?hi ?_; (case hw => (first | rfl | (simp [Region.wanted, yielded]; done))); (case hi => (first | kernel_rfl | (rw [qfn_size]; kernel_rfl))))
    | (refine wpList_store_row rfl _ _ _ rfl _ rfl _ rfl _ _ r (by first | kernel_rfl | (rw [qfn_size]; kernel_rfl)) (by first | rfl | simp only [qfn_size]) (by first | exact qfn_one _ | rfl) ?_))
  refine bodyPost_ret (results_cell_row rfl _ _ _ _ _ _ _ rfl (r.row (qfn h)) Try.underlying22 rfl (by first | kernel_rfl | (rw [qfn_size]; kernel_rfl))) rfl ?_
  refine ⟨?_, Below.setRow hB (by omega) _⟩
  rfl
set_option maxRecDepth 100000 in
set_option maxHeartbeats 2000000 in
theorem ssum_any (h : Nat → Int) (f : Int) (b : Nat) (w : World) (hg : blk w b (setc (h, f)) 230) (hI : SI h f) : Calls Try.prog 180 #[.pointer (some ⟨b, 0, none⟩)] w fun e w' => e = .returned (.agg (vfn (sumW h))) ∧ Below w.heap.size w w' := by
  have SP := Lib.hid (fun w1 (hb : Below w.heap.size w w1) => sspeeds_any h f b w1 (hg.below hb hg.lt))
  clear hg
  have e0 : IntKind.i64.wrap (h 0 + h 3) = sumW h 0 := by have := hI.b 0 (by omega); have := hI.b 3 (by omega); rw [IntKind.wrap_i64]; unfold sumW; omega
  have e1 : IntKind.i64.wrap (h 1 + h 3) = sumW h 1 := by have := hI.b 1 (by omega); have := hI.b 3 (by omega); rw [IntKind.wrap_i64]; unfold sumW; omega
  have e2 : IntKind.i64.wrap (h 2 + h 3) = sumW h 2 := by have := hI.b 2 (by omega); have := hI.b 3 (by omega); rw [IntKind.wrap_i64]; unfold sumW; omega
  clear hI
  go_enter Try.func180, Try.ntmps180
  go_upto_region 1 with (fail)
  simp only [zero_vec]
  have r : blk (w.alloc (.cells (vfn fun _ => 0) 31)) w.heap.size (vfn fun _ => 0) 31 := blk.new _ _ _
  have hB : Below w.heap.size w (w.alloc (.cells (vfn fun _ => 0) 31)) := by go_grown
  generalize (w.alloc (.cells (vfn fun _ => 0) 31)) = w0 at *
  have lt_r := r.lt
  have hW0 : w.heap.size ≤ w0.heap.size := by simpa using hB.size
  apply wp_region_Q 4 [0, 1, 3, 7] [2] [_, _, (fun p => .pointer (some ⟨p 2, 0, none⟩)), (fun _ => undef)] (fun p L w' => w0.heap.size ≤ w'.heap.size ∧ Below w.heap.size w w' ∧ blk w' w.heap.size (vfn fun _ => 0) 31 ∧ (L 2 = true → w0.heap.size ≤ p 2 ∧ blk w' (p 2) (bif L 3 then (qfn h) else (qfn fun _ => 0)) 22)) _ [(0, 4), (1, 5), (2, 3)] [0, 1, 2, 3]
  case hn => rfl
  case hB => kernel_rfl
  case hds => kernel_rfl
  case hA => (intro p; simp only [putsD, Act.put, sIT, sCZ, sCS, gCZ, gCS]; exact rfl)
  case h0 => exact fun p => ⟨Nat.le_refl _, hB, r, fun h => absurd h (by decide)⟩
  case hmore => exact fun p L w1 w2 ⟨hsz, hB, r, h_x⟩ hm => ⟨Nat.le_trans hsz hm.size, hB.trans (hm.mono (Nat.le_trans hW0 hsz)), r.below hm r.lt, fun hl => ⟨(h_x hl).1, (h_x hl).2.below hm (h_x hl).2.lt⟩⟩
  case hs =>
    intro more
    refine stepV 0 rfl rfl (fun _ _ _ h => h) ?_ ?_
    · intros; go_simp; exact ⟨rfl, rfl⟩
    refine stepD 1 rfl (fun p => rfl) (fun _ _ _ h => h) more ?_ ?_
    · rintro p L w1 ⟨hsz, hB, r, h_x⟩ hk
      go_simp
      refine (SP.out _ hB).mono ?_
      rintro e w2 ⟨rfl, h2⟩
      first | exact ⟨rfl, h2⟩ | (subst h2; exact ⟨rfl, Below.refl _ _⟩)
    refine AllI.cons ?_ ?_
    · refine stepI_alloc 2 rfl (fun p => rfl) rfl (qfn fun _ => 0) 22 (fun p => rfl) ?_ ?_
      · intro p w1
        go_simp
        first | rfl | rw [zero_spd]
      rintro p L w1 ⟨hsz, hB, r, h_x⟩ hk
      have L3 : L 3 = false := hk.2.2 3 rfl
      refine ⟨Nat.le_trans hsz (by simp), hB.alloc (Nat.le_trans (by first | exact hW0 | (have := hB.size; simp at this ⊢; omega)) hsz) _, r.alloc _, fun _ => ⟨hsz, ?_⟩⟩
      rw [show upL L 2 3 = false from L3]
      exact blk.new _ _ _
    refine AllI.cons ?_ ?_
    · refine stepI_store 3 rfl (fun p => rfl) (fun p => rfl) _ _ _ rfl (fun p => p 2) 0 (fun p => rfl) (fun p => (qfn h)) (fun p => rfl) (fun p => (qfn fun _ => 0)) (fun p => (qfn h)) 22 (fun p => over_qq _ _) (fun p => by first | (rw [qfn_size, qfn_size]; decide) | simp [qfn_size, qfn_size]) (fun p => by rw [qfn_size]; kernel_rfl) (fun p => qfn_one _) ?_ ?_
      · rintro p L w1 ⟨hsz, hB, r, h_x⟩ hk
        have L3 : L 3 = false := hk.1
        have hh := (h_x (hk.2.1 2 rfl)).2
        rw [L3] at hh
        try simp only [cond_true, cond_false] at hh
        exact hh
      · rintro p L w1 ⟨hsz, hB, r, h_x⟩ hk
        have L3 : L 3 = false := hk.1
        skip
        have hp := h_x (hk.2.1 2 rfl)
        refine ⟨(by simpa using hsz), Below.setRow hB (by first | exact Nat.le_trans hW0 hp.1 | exact ge_x | omega | (have := hB.size; simp at this ⊢; omega)) _, r.rowOther (by first | exact Nat.ne_of_lt (Nat.lt_of_lt_of_le lt_r hp.1) | omega) _, fun _ => ⟨hp.1, ?_⟩⟩
        rw [show upL L 3 3 = true from rfl]
        exact hp.2.row _
    exact AllI.nil
  case hV0 =>
    intro p q
    refine AllI.cons ?_ ?_
    · skip
      iterate 4 (refine AllI.cons (by first | exact .inl rfl | (refine .inr ?_; simp only [gCZ, gCS]; done) | exact .inr rfl) ?_)
      exact AllI.nil
    exact AllI.nil
  case he =>
  clear hB r
  rintro p w0r ⟨hsz, hB, r, h_x⟩
  obtain ⟨le_x, x⟩ := h_x rfl
  clear h_x
  replace x : blk w0r (p 2) (qfn h) 22 := x
  have ne_r_x : w.heap.size ≠ p 2 := Nat.ne_of_lt (Nat.lt_of_lt_of_le lt_r le_x)
  have ge_x : w.heap.size ≤ p 2 := Nat.le_trans hW0 le_x
  generalize p 2 = x_b at *
  clear lt_r hsz hW0
  go_upto_region 2 with (fail)
  have lt_r := r.lt
  have lt_x := x.lt
  have hW0 : w.heap.size ≤ w0r.heap.size := by simpa using hB.size
  apply wp_region_Q 17 [0, 1, 3, 7, 15, 31, 63, 127, 255, 511, 1023, 2047, 4095, 8191, 16383, 32767, 65535] [] [_, _, _, _, _, _, _, _, _, _, _, _, _, _, _, _, (fun _ => undef)] (fun p L w' => w0r.heap.size ≤ w'.heap.size ∧ Below w.heap.size w w' ∧ blk w' w.heap.size (bif L 16 then (vfn (sumW h)) else (vfn fun _ => 0)) 31 ∧ blk w' x_b (qfn h) 22) _ [(0, 6), (1, 7), (2, 8), (3, 9), (4, 10), (5, 11), (6, 12), (7, 13), (8, 14), (9, 15), (10, 16), (11, 17), (12, 18), (13, 19), (14, 20), (15, 21)] [0, 1, 2, 3, 4, 5, 6, 7, 8, 9, 10, 11, 12, 13, 14, 15, 16]
  case hn => rfl
  case hB => kernel_rfl
  case hds => kernel_rfl
  case hA => (intro p; simp only [putsD, Act.put, sIT, sCZ, sCS, gCZ, gCS]; exact rfl)
  case h0 => exact fun p => ⟨Nat.le_refl _, hB, r, x⟩
  case hmore => exact fun p L w1 w2 ⟨hsz, hB, r, x⟩ hm => ⟨Nat.le_trans hsz hm.size, hB.trans (hm.mono (Nat.le_trans hW0 hsz)), r.below hm r.lt, x.below hm x.lt⟩
  case hs =>
    intro more
    refine stepV 0 rfl rfl (fun _ _ _ h => h) ?_ ?_
    · intros; go_simp; exact ⟨rfl, rfl⟩
    refine stepV 1 rfl rfl (fun _ _ _ h => h) ?_ ?_
    · rintro p L w1 ⟨hsz, hB, r, x⟩ hk
      have L16 : L 16 = false := hk.2.2 16 rfl
      have hc : w1.cell? ⟨x_b, 0, none⟩ = some (.int .i64 (h 0)) := x.cellIs (qfn_get _ (by omega))
      go_simp
      exact ⟨rfl, rfl⟩
    refine stepV 2 rfl rfl (fun _ _ _ h => h) ?_ ?_
    · intros; go_simp; exact ⟨rfl, rfl⟩
    refine stepV 3 rfl rfl (fun _ _ _ h => h) ?_ ?_
    · rintro p L w1 ⟨hsz, hB, r, x⟩ hk
      have L16 : L 16 = false := hk.2.2 16 rfl
      have hc : w1.cell? ⟨x_b, 3, none⟩ = some (.int .i64 (h 3)) := x.cellIs (qfn_get _ (by omega))
      go_simp
      exact ⟨rfl, rfl⟩
    refine stepV 4 rfl rfl (fun _ _ _ h => h) ?_ ?_
    · intros; go_simp; exact ⟨rfl, rfl⟩
    refine stepV 5 rfl rfl (fun _ _ _ h => h) ?_ ?_
    · intros; go_simp; exact ⟨rfl, rfl⟩
    refine stepV 6 rfl rfl (fun _ _ _ h => h) ?_ ?_
    · rintro p L w1 ⟨hsz, hB, r, x⟩ hk
      have L16 : L 16 = false := hk.2.2 16 rfl
      have hc : w1.cell? ⟨x_b, 1, none⟩ = some (.int .i64 (h 1)) := x.cellIs (qfn_get _ (by omega))
      go_simp
      exact ⟨rfl, rfl⟩
    refine stepV 7 rfl rfl (fun _ _ _ h => h) ?_ ?_
    · intros; go_simp; exact ⟨rfl, rfl⟩
    refine stepV 8 rfl rfl (fun _ _ _ h => h) ?_ ?_
    · rintro p L w1 ⟨hsz, hB, r, x⟩ hk
      have L16 : L 16 = false := hk.2.2 16 rfl
      have hc : w1.cell? ⟨x_b, 3, none⟩ = some (.int .i64 (h 3)) := x.cellIs (qfn_get _ (by omega))
      go_simp
      exact ⟨rfl, rfl⟩
    refine stepV 9 rfl rfl (fun _ _ _ h => h) ?_ ?_
    · intros; go_simp; exact ⟨rfl, rfl⟩
    refine stepV 10 rfl rfl (fun _ _ _ h => h) ?_ ?_
    · intros; go_simp; exact ⟨rfl, rfl⟩
    refine stepV 11 rfl rfl (fun _ _ _ h => h) ?_ ?_
    · rintro p L w1 ⟨hsz, hB, r, x⟩ hk
      have L16 : L 16 = false := hk.2.2 16 rfl
      have hc : w1.cell? ⟨x_b, 2, none⟩ = some (.int .i64 (h 2)) := x.cellIs (qfn_get _ (by omega))
      go_simp
      exact ⟨rfl, rfl⟩
    refine stepV 12 rfl rfl (fun _ _ _ h => h) ?_ ?_
    · intros; go_simp; exact ⟨rfl, rfl⟩
    refine stepV 13 rfl rfl (fun _ _ _ h => h) ?_ ?_
    · rintro p L w1 ⟨hsz, hB, r, x⟩ hk
      have L16 : L 16 = false := hk.2.2 16 rfl
      have hc : w1.cell? ⟨x_b, 3, none⟩ = some (.int .i64 (h 3)) := x.cellIs (qfn_get _ (by omega))
      go_simp
      exact ⟨rfl, rfl⟩
    refine stepV 14 rfl rfl (fun _ _ _ h => h) ?_ ?_
    · intros; go_simp; exact ⟨rfl, rfl⟩
    refine stepV 15 rfl rfl (fun _ _ _ h => h) ?_ ?_
    · intros; (try simp only [vfn, qfn]); go_simp; exact ⟨rfl, rfl⟩
    refine AllI.cons ?_ ?_
    · refine stepI_store 16 rfl (fun p => rfl) (fun p => rfl) _ _ _ rfl (fun _ => w.heap.size) 0 (fun p => rfl) (fun p => (vfn (sumW h))) (fun p => (congrArg Value.agg (vfn_of (sumW h)))) (fun p => (vfn fun _ => 0)) (fun p => (vfn (sumW h))) 31 (fun p => over_v _ _) (fun p => by first | (rw [vfn_size, vfn_size]; decide) | simp [vfn_size, vfn_size]) (fun p => by rw [vfn_size]; kernel_rfl) (fun p => vfn_one _) ?_ ?_
      · rintro p L w1 ⟨hsz, hB, r, x⟩ hk
        have L16 : L 16 = false := hk.1
        rw [L16] at r
        try simp only [cond_true, cond_false] at r
        exact r
      · rintro p L w1 ⟨hsz, hB, r, x⟩ hk
        have L16 : L 16 = false := hk.1
        skip
        refine ⟨(by simpa using hsz), Below.setRow hB (by first | exact Nat.le_trans hW0 hp.1 | exact ge_r | omega | (have := hB.size; simp at this ⊢; omega)) _, ?_, x.rowOther (Ne.symm ne_r_x) _⟩
        rw [show upL L 16 16 = true from rfl]
        exact r.row _
    exact AllI.nil
  case hV0 => exact fun p q => AllI.nil
  case he =>
  clear hB r x
  rintro p w0rr ⟨hsz, hB, r, x⟩
  replace r : blk w0rr w.heap.size (vfn (sumW h)) 31 := r
  clear lt_r lt_x hsz hW0
  go_wp2_with (fail)
  refine bodyPost_ret (results_cell_row rfl _ _ _ _ _ _ _ rfl r Try.underlying31 rfl (by first | kernel_rfl | (rw [vfn_size]; kernel_rfl))) rfl ?_
  refine ⟨?_, hB⟩
  rfl
set_option maxRecDepth 100000 in
set_option maxHeartbeats 6000000 in
theorem sstep_any (h : Nat → Int) (f : Int) (b : Nat) (c : Nat → Int) (w : World) (hg : blk w b (setc (h, f)) 230) (hI : SI h f) : Calls Try.prog 150 #[.pointer (some ⟨b, 0, none⟩), .agg (qfn c)] w fun e w' => e = .returned (.int .i64 0) ∧ blk w' b (setc (stpF h f c, f)) 230 ∧ Save b b w w' := by
  have NN := Lib.hid (fun w' (hb : Below w.heap.size w w') => snone_any h f b w' (hg.below hb hg.lt))
  have HI := Lib.hid hI.b
  clear hI
  go_enter Try.func150, Try.ntmps150
  go_upto_region 1 with (fail)
  have v : blk (w.alloc (.cells (qfn c) 22)) w.heap.size (qfn c) 22 := blk.new _ _ _
  have hB : Below w.heap.size w (w.alloc (.cells (qfn c) 22)) := by go_grown
  generalize (w.alloc (.cells (qfn c) 22)) = w0 at *
  have g : blk w0 b (setc (h, f)) 230 := hg.below hB hg.lt
  have gl := hg.lt
  clear hg
  have ne_v_g : w.heap.size ≠ b := by omega
  go_upto_region 3 with (first
    | (refine wpList_load_rowG ?hw _ _ rfl _ rfl _ _ _ _ v Try.underlying22 rfl ?hi ?_; (case hw => (first | rfl | (simp [Region.wanted, yielded]; done))); (case hi => (first | kernel_rfl | (rw [qfn_size]; kernel_rfl))))
    | (go_at_call 187; with_reducible refine (NN.out _ hB).mono ?_; rintro e w9 ⟨rfl, rfl⟩))
  replace hB : Save b b w w0 := Save.of hB
  clear NN
  have lt_v := v.lt
  have lt_g := g.lt
  have hW0 : w.heap.size ≤ w0.heap.size := by simpa using hB.size
  apply wp_region_Q 6 [0, 1, 3, 7, 15, 31] [] [_, _, _, _, _, _] (fun p L w' => w0.heap.size ≤ w'.heap.size ∧ Save b b w w' ∧ blk w' w.heap.size (qfn c) 22 ∧ blk w' b (setc (h, f)) 230) _ [(0, 9), (1, 10), (2, 11), (3, 12), (4, 13), (5, 14)] [0, 1, 2, 3, 4, 5]
  case hn => rfl
  case hB => kernel_rfl
  case hds => kernel_rfl
  case hA => (intro p; simp only [putsD, Act.put, sIT, sCZ, sCS, gCZ, gCS]; exact rfl)
  case h0 => exact fun p => ⟨Nat.le_refl _, hB, v, g⟩
  case hmore => exact fun p L w1 w2 ⟨hsz, hB, v, g⟩ hm => ⟨Nat.le_trans hsz hm.size, hB.trans (hm.mono (Nat.le_trans hW0 hsz)), v.below hm v.lt, g.below hm g.lt⟩
  case hs =>
    intro more
    refine stepV 0 rfl rfl (fun _ _ _ h => h) ?_ ?_
    · intros; go_simp; exact ⟨rfl, rfl⟩
    refine stepV 1 rfl rfl (fun _ _ _ h => h) ?_ ?_
    · intros; go_simp; exact ⟨rfl, rfl⟩
    refine stepV 2 rfl rfl (fun _ _ _ h => h) ?_ ?_
    · intros; go_simp; exact ⟨rfl, rfl⟩
    refine stepV 3 rfl rfl (fun _ _ _ h => h) ?_ ?_
    · intros; go_simp; exact ⟨rfl, rfl⟩
    refine stepV 4 rfl rfl (fun _ _ _ h => h) ?_ ?_
    · rintro p L w1 ⟨hsz, hB, v, g⟩ hk
      exact valR_part _ _ rfl _ 0 rfl _ _ g (qfn h) (set_h h f) _ Try.underlying22 rfl (by rw [qfn_size]; kernel_rfl) rfl
    refine stepV 5 rfl rfl (fun _ _ _ h => h) ?_ ?_
    · intros; go_simp; exact ⟨rfl, rfl⟩
    exact AllI.nil
  case hV0 => exact fun p q => AllI.nil
  case he =>
  clear hB v g
  rintro p w0r ⟨hsz, hB, v, g⟩
  clear lt_v lt_g hsz hW0
  rw [show setc (h, f) = setc (preH (stpF h f c) h 0, f) from by rw [preH_zero]] at g
  go_wp2_with (fail)
  go_loopg [14] 4 (fun g_ iv wr => ∃ k : Nat, g_ + k = 4 ∧ iv = .int .i64 k ∧ blk wr w.heap.size (qfn c) 22 ∧ blk wr b (setc (preH (stpF h f c) h k, f)) 230 ∧ Save b b w wr)
  case atStart => exact ⟨0, rfl, rfl, v, g, hB⟩
  case round =>
    clear v g hB
    obtain ⟨k, hk, rfl, v, g, hB⟩ := hrel
    by_cases hkn : k < 4
    · have hdk : decide ((k : Int) < 4) = true := decide_eq_true (by omega)
      have hdk' : decide (k < 4) = true := decide_eq_true (by omega)
      have hk3 : (k : Int) < 4 := by omega
      have hw3 : IntKind.i64.wrap ((k : Int) + 1) = ((k + 1 : Nat) : Int) := by rw [IntKind.wrap_i64]; omega
      have hix : Hid (∀ w, (Instr.index 22 (.agg (qfn h)) (.int .i64 k)).run Try.prog w = .ok (.int .i64 (h k)) w) := fun w => widx h hkn w
      have H := HI.out k hkn
      by_cases hf : (k : Int) = f
      · have d6 : ((k : Int) != f) = false := by simp [hf]
        have ev : stpF h f c k = h k := by unfold stpF; rw [if_pos hf]
        have hc4 : wr.cell? ⟨b, 4, none⟩ = some (.int .i64 f) := g.cellIs rfl
        clear H hf
        go_wp2_with ((refine wpList_index ?hw _ _ _ rfl _ rfl k _ rfl rfl _ hix.out ?_; (case hw => (first | rfl | (simp [Region.wanted, yielded]; done)))))
        go_roundg (4 - (k + 1))
        case rel =>
          exact ⟨k + 1, by omega, rfl, v, by rw [preH_same ev]; exact g, hB⟩
        case measure => omega
      · have d6 : ((k : Int) != f) = true := by simp [hf]
        have hc4 : wr.cell? ⟨b, 4, none⟩ = some (.int .i64 f) := g.cellIs rfl
        have hck : wr.cell? ⟨w.heap.size, k, none⟩ = some (.int .i64 (c k)) := v.cellIs (qfn_get c hkn)
        have H1 := clampT_bd (c k)
        have H2 := frW_bd H
        have CL := Lib.hid (fun w => clamp_any (c k) (-1048576) 1048576 w)
        have FR := Lib.hid (fun w => fric_any (h k) w H)
        have CM := Lib.hid (fun w => clamp_any (h k + (clampV (c k) (-1048576) 1048576 - frW (h k))) (-16777216) 16777216 w)
        have e1 : IntKind.i64.wrap (clampV (c k) (-1048576) 1048576 - frW (h k)) = clampV (c k) (-1048576) 1048576 - frW (h k) := by rw [IntKind.wrap_i64]; omega
        have e2 : IntKind.i64.wrap (h k + (clampV (c k) (-1048576) 1048576 - frW (h k))) = h k + (clampV (c k) (-1048576) 1048576 - frW (h k)) := by rw [IntKind.wrap_i64]; omega
        have ev : clampV (h k + (clampV (c k) (-1048576) 1048576 - frW (h k))) (-16777216) 16777216 = stpF h f c k := by unfold stpF stpX; rw [if_neg hf]; congr 1; omega
        clear H H1 H2 hf
        go_upto_region 8 with (first
          | (go_at_call 157; with_reducible refine (CL.out _).mono ?_; rintro e wa ⟨rfl, rfl⟩)
          | (go_at_call 188; with_reducible refine (FR.out _).mono ?_; rintro e wb ⟨rfl, hb⟩; replace hB := hB.trans (hb.mono hB.size); replace v := v.below hb v.lt; replace g := g.below hb g.lt; clear hb)
          | (refine wpList_index ?hw _ _ _ rfl _ rfl k _ rfl rfl _ hix.out ?_; (case hw => (first | rfl | (simp [Region.wanted, yielded]; done)))))
        clear CL FR hc4 hck hix e1 e2
        have lt_v := v.lt
        have lt_g := g.lt
        have hW0 : w.heap.size ≤ wb.heap.size := by simpa using hB.size
        apply wp_region_I 9 [0, 0, 0, 4, 1, 17, 49, 127, 255] [] [_, _, _, _, _, _, _, _, (fun _ => undef)] (fun p L w' => wb.heap.size ≤ w'.heap.size ∧ Save b b w w' ∧ blk w' w.heap.size (qfn c) 22 ∧ blk w' b (bif L 8 then (setc (preH (stpF h f c) h (k + 1), f)) else (setc (preH (stpF h f c) h k, f))) 230) _ [(0, 34), (1, 35), (2, 36), (3, 37), (4, 38), (5, 39), (6, 40), (7, 41)] [0, 1, 2, 3, 4, 5, 6, 7, 8]
        case hn => rfl
        case hm => kernel_rfl
        case hB => kernel_rfl
        case hds => kernel_rfl
        case hA => (intro p; simp only [putsD, Act.put, sIT, sCZ, sCS, gCZ, gCS]; exact rfl)
        case h0 => exact fun p => ⟨Nat.le_refl _, hB.drew, v.drew, g.drew⟩
        case hmore => exact fun p L w1 w2 ⟨hsz, hB, v, g⟩ hm => ⟨Nat.le_trans hsz hm.size, hB.trans (hm.mono (Nat.le_trans hW0 hsz)), v.below hm v.lt, g.below hm g.lt⟩
        case hs =>
          intro more
          refine stepV 0 rfl rfl (fun _ _ _ h => h) ?_ ?_
          · intros; go_simp; exact ⟨rfl, rfl⟩
          refine stepV 1 rfl rfl (fun _ _ _ h => h) ?_ ?_
          · intros; go_simp; exact ⟨rfl, rfl⟩
          refine stepV 2 rfl rfl (fun _ _ _ h => h) ?_ ?_
          · intros; go_simp; exact ⟨rfl, rfl⟩
          refine stepD 3 rfl (fun p => rfl) (fun _ _ _ h => h) more ?_ ?_
          · rintro p L w1 ⟨hsz, hB, v, g⟩ hk
            go_simp
            refine (CM.out _).mono ?_
            rintro e w2 ⟨rfl, h2⟩
            first | exact ⟨rfl, h2⟩ | (subst h2; exact ⟨rfl, Below.refl _ _⟩)
          refine stepV 4 rfl rfl (fun _ _ _ h => h) ?_ ?_
          · intros; go_simp; exact ⟨rfl, rfl⟩
          refine stepV 5 rfl rfl (fun _ _ _ h => h) ?_ ?_
          · intros; go_simp; exact ⟨rfl, rfl⟩
          refine stepV 6 rfl rfl (fun _ _ _ h => h) ?_ ?_
          · intros; go_simp; exact ⟨rfl, rfl⟩
          refine stepV 7 rfl rfl (fun _ _ _ h => h) ?_ ?_
          · intros; go_simp; exact ⟨rfl, rfl⟩
          refine AllI.cons ?_ ?_
          · refine stepI_cell 8 rfl (fun p => rfl) (fun p => rfl) (fun _ => b) (k) (fun p => .int .i64 (clampV (h k + (clampV (c k) (-1048576) 1048576 - frW (h k))) (-16777216) 16777216)) (fun p => (setc (preH (stpF h f c) h k, f))) (fun p => (setc (preH (stpF h f c) h (k + 1), f))) 230 (fun p => set_pre f hkn _ ev) ?_ ?_ ?_
            · rintro p L w1 ⟨hsz, hB, v, g⟩ hk
              have L8 : L 8 = false := hk.1
              rw [L8] at g
              try simp only [cond_true, cond_false] at g
              exact g
            · intro p w1 hb
              have fz : w1.frozen? ⟨b, k, none⟩ = false := hb.free _
              have cz : ∃ u, w1.cell? ⟨b, k, none⟩ = some u := ⟨_, hb.cellIs (set_i _ f hkn)⟩
              obtain ⟨u, cz⟩ := cz
              go_simp
              try exact ⟨_, rfl, by first | exact .inl rfl | exact .inr rfl⟩
            · rintro p L w1 ⟨hsz, hB, v, g⟩ hk
              have L8 : L 8 = false := hk.1
              refine ⟨(by simpa using hsz), hB.row (by first | exact .inr (Nat.le_trans hW0 hp.1) | exact .inr ge_g | exact .inl ⟨Nat.le_refl _, Nat.le_refl _⟩ | omega | (have := hB.size; simp at this ⊢; omega)) _, v.rowOther ne_v_g _, ?_⟩
              rw [show upL L 8 8 = true from rfl]
              exact g.row _
          exact AllI.nil
        case hV0 => exact fun p q => AllI.nil
        case he =>
        clear hB v g
        rintro p wbr ⟨hsz, hB, v, g⟩
        replace g : blk wbr b (setc (preH (stpF h f c) h (k + 1), f)) 230 := g
        clear lt_v lt_g hsz hW0
        go_wp2_with (fail)
        go_roundg (4 - (k + 1))
        case rel =>
          exact ⟨k + 1, by omega, rfl, v, g, hB⟩
        case measure => omega
    · obtain rfl : k = 4 := by omega
      go_wp2_with (fail)
      go_ret
      exact ⟨rfl, g, hB⟩
end Go.Proofs.Ytkmelddejdikgaa
