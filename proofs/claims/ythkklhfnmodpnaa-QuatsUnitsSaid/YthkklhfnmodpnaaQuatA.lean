/-
  Quaternions of four numbers: what it is that one is bounded, conjugates, and what it is that one is valid, in the package and in its specification.
-/
import Derived.Test.YthkklhfnmodpnaaVecF
import Derived.Test.YthkklhfnmodpnaaIdx
set_option linter.unusedSimpArgs false
set_option linter.unusedVariables false
namespace Go.Proofs.Ythkklhfnmodpnaa
open Go.RowKit PM Dt
/-- Four numbers, as cells. -/
def qfn (f : Nat → Int) : Array Value := #[.int .i64 (f 0), .int .i64 (f 1), .int .i64 (f 2), .int .i64 (f 3)]
theorem qfn_lit (f : Nat → Int) : qfn f = #[.int .i64 (f 0), .int .i64 (f 1), .int .i64 (f 2), .int .i64 (f 3)] := rfl
theorem qfn_size (f : Nat → Int) : (qfn f).size = 4 := rfl
theorem qfn_one (f : Nat → Int) : (qfn f).all (·.oneCell') = true := by simp [qfn, Value.oneCell']
theorem qfn_get (f : Nat → Int) {i : Nat} (h : i < 4) : (qfn f)[i]? = some (.int .i64 (f i)) := by
  have : i = 0 ∨ i = 1 ∨ i = 2 ∨ i = 3 := by omega
  rcases this with rfl | rfl | rfl | rfl <;> rfl
theorem qfn_congr {f g : Nat → Int} (h : ∀ i, i < 4 → f i = g i) : qfn f = qfn g := by
  unfold qfn; rw [h 0 (by omega), h 1 (by omega), h 2 (by omega), h 3 (by omega)]
theorem zero_quat : #[Value.int .i64 0, .int .i64 0, .int .i64 0, .int .i64 0] = qfn (fun _ => 0) := rfl
def okQ (f : Nat → Int) : Bool := vb (f 0) && (vb (f 1) && (vb (f 2) && vb (f 3)))
theorem okQ_iff (f : Nat → Int) : okQ f = true ↔ ∀ i, i < 4 → vb (f i) = true := by
  unfold okQ
  rw [Bool.and_eq_true, Bool.and_eq_true, Bool.and_eq_true]
  constructor
  · rintro ⟨h0, h1, h2, h3⟩ i hi
    have : i = 0 ∨ i = 1 ∨ i = 2 ∨ i = 3 := by omega
    rcases this with rfl | rfl | rfl | rfl <;> assumption
  · intro h; exact ⟨h 0 (by omega), h 1 (by omega), h 2 (by omega), h 3 (by omega)⟩
theorem okQ_no {f : Nat → Int} {i : Nat} (h : i < 4) (hb : ¬ (-1099511627776 ≤ f i ∧ f i ≤ 1099511627776)) : okQ f = false := by
  rw [Bool.eq_false_iff]; intro h2
  exact hb ((vb_iff _).1 ((okQ_iff f).1 h2 i h))
attribute [irreducible] qfn
theorem ints4 {w : World} {b : Nat} {f : Nat → Int} {t : TypeId} (h : blk w b (qfn f) t) : Ints w (.slice (some ⟨b, 0, none⟩) 4 4) [f 0, f 1, f 2, f 3] :=
  Or.inr ⟨by simp, b, 0, 4, rfl, h.lt, fun k hk => by
    have hk : k < 4 := hk
    rw [Nat.zero_add]
    refine (h.cellIs (qfn_get f hk)).trans ?_
    have : k = 0 ∨ k = 1 ∨ k = 2 ∨ k = 3 := by omega
    rcases this with rfl | rfl | rfl | rfl <;> rfl⟩
theorem list_I4 {f : Nat → Int} (h : ∀ i, i < 4 → I64 (f i)) : ∀ k, k < [f 0, f 1, f 2, f 3].length → I64 ([f 0, f 1, f 2, f 3].getD k 0) := by
  intro k hk
  have hk : k < 4 := hk
  have : k = 0 ∨ k = 1 ∨ k = 2 ∨ k = 3 := by omega
  rcases this with rfl | rfl | rfl | rfl
  · exact h 0 (by omega)
  · exact h 1 (by omega)
  · exact h 2 (by omega)
  · exact h 3 (by omega)
theorem qidx (f : Nat → Int) {k : Nat} (h : k < 4) (w : World) : (Instr.index 34 (.agg (qfn f)) (.int .i64 k)).run Try.prog w = .ok (.int .i64 (f k)) w := by
  obtain ⟨i, hi⟩ : ∃ i, Try.prog.info? 2 = some i := Option.isSome_iff_exists.1 (by kernel_rfl)
  exact run_index_cell (P := Try.prog) (n := 4) Try.underlying34 Try.underlying2 rfl hi (by kernel_rfl) h (qfn_get f h) w
set_option maxRecDepth 100000 in
set_option maxHeartbeats 1000000 in
theorem rbounded_any (f : Nat → Int) (w : World) : Calls Try.prog 73 #[.agg (qfn f)] w fun e w' => e = .returned (.bool (okQ f)) ∧ Below w.heap.size w w' := by
  go_enter Try.func73, Try.ntmps73
  go_wp2_with (fail)
  go_loopg [3] 4 (fun g iv wr => ∃ k : Nat, g + k = 4 ∧ iv = .int .i64 k ∧ Hid (∀ j, j < k → vb (f j) = true) ∧ blk wr w.heap.size (qfn f) 34 ∧ Below w.heap.size w wr)
  case atStart => exact ⟨0, rfl, rfl, fun j hj => by omega, blk.new _ _ _, by go_grown⟩
  case round =>
    obtain ⟨k, hk, rfl, hall, p, hB⟩ := hrel
    by_cases hkn : k < 4
    · have hdk : decide ((k : Int) < 4) = true := decide_eq_true (by omega)
      have hdk' : decide (k < 4) = true := decide_eq_true (by omega)
      have hw3 : IntKind.i64.wrap ((k : Int) + 1) = ((k + 1 : Nat) : Int) := by rw [IntKind.wrap_i64]; omega
      have ck : wr.cell? ⟨w.heap.size, k, none⟩ = some (.int .i64 (f k)) := p.cellIs (qfn_get f hkn)
      by_cases h1 : -1099511627776 ≤ f k
      · have d1 : decide (f k < -1099511627776) = false := decide_eq_false (by omega)
        by_cases h2 : f k ≤ 1099511627776
        · have d2 : decide (1099511627776 < f k) = false := decide_eq_false (by omega)
          have HV := Lib.hid ((vb_iff _).2 ⟨h1, h2⟩)
          clear h1 h2
          go_wp2_with (fail)
          go_roundg (4 - (k + 1))
          case rel =>
            refine ⟨k + 1, by omega, rfl, fun j hj => ?_, p, hB⟩
            by_cases e : j = k
            · subst e; exact HV.out
            · exact hall.out j (by omega)
          case measure => omega
        · have d2 : decide (1099511627776 < f k) = true := decide_eq_true (by omega)
          have HV := Lib.hid (show okQ f = false from okQ_no hkn (by omega))
          clear h1 h2
          go_wp2_with (fail)
          go_ret
          exact ⟨by rw [HV.out]; rfl, hB⟩
      · have d1 : decide (f k < -1099511627776) = true := decide_eq_true (by omega)
        have HV := Lib.hid (show okQ f = false from okQ_no hkn (by omega))
        clear h1
        go_wp2_with (fail)
        go_ret
        exact ⟨by rw [HV.out]; rfl, hB⟩
    · obtain rfl : k = 4 := by omega
      have HV := Lib.hid ((okQ_iff f).2 hall.out)
      go_wp2_with (fail)
      go_ret
      exact ⟨by rw [HV.out]; rfl, hB⟩
set_option maxRecDepth 100000 in
set_option maxHeartbeats 2000000 in
theorem bounded_any (f : Nat → Int) (w : World) : Calls Try.prog 70 #[.agg (qfn f)] w fun e w' => e = .returned (.bool (okQ f)) ∧ Below w.heap.size w w' := by
  go_enter Try.func70, Try.ntmps70
  have p0 := blk.new w (qfn f) 34
  go_wp2_with ((refine wpList_load_rowG ?hw _ _ rfl _ rfl _ _ _ _ p0 Try.underlying34 rfl ?hi ?_; (case hw => (first | rfl | (simp [Region.wanted, yielded]; done))); (case hi => (rw [qfn_size]; kernel_rfl))))
  have hB0 : Below w.heap.size w (w.alloc (.cells (qfn f) 34)) := by go_grown
  clear p0
  generalize w.alloc (.cells (qfn f) 34) = w0 at *
  go_loopg [6] 4 (fun g iv wr => ∃ k : Nat, g + k = 4 ∧ iv = .int .i64 k ∧ Hid (∀ j, j < k → vb (f j) = true) ∧ Below w.heap.size w wr)
  case atStart => exact ⟨0, rfl, rfl, fun j hj => by omega, hB0⟩
  case round =>
    clear hB0
    obtain ⟨k, hk, rfl, hall, hB⟩ := hrel
    by_cases hkn : k < 4
    · have hdk : decide ((k : Int) < 4) = true := decide_eq_true (by omega)
      have hdk' : decide (k < 4) = true := decide_eq_true (by omega)
      have hw3 : IntKind.i64.wrap ((k : Int) + 1) = ((k + 1 : Nat) : Int) := by rw [IntKind.wrap_i64]; omega
      have hix : Hid (∀ w, (Instr.index 34 (.agg (qfn f)) (.int .i64 k)).run Try.prog w = .ok (.int .i64 (f k)) w) := fun w => qidx f hkn w
      by_cases h1 : -1099511627776 ≤ f k
      · have d1 : decide (f k < -1099511627776) = false := decide_eq_false (by omega)
        by_cases h2 : f k ≤ 1099511627776
        · have d2 : decide (1099511627776 < f k) = false := decide_eq_false (by omega)
          have HV := Lib.hid ((vb_iff _).2 ⟨h1, h2⟩)
          clear h1 h2
          go_wp2_with ((refine wpList_index ?hw _ _ _ rfl _ rfl k _ rfl rfl _ hix.out ?_; (case hw => (first | rfl | (simp [Region.wanted, yielded]; done)))))
          go_roundg (4 - (k + 1))
          case rel =>
            refine ⟨k + 1, by omega, rfl, fun j hj => ?_, hB⟩
            by_cases e : j = k
            · subst e; exact HV.out
            · exact hall.out j (by omega)
          case measure => omega
        · have d2 : decide (1099511627776 < f k) = true := decide_eq_true (by omega)
          have HV := Lib.hid (show okQ f = false from okQ_no hkn (by omega))
          clear h1 h2
          go_wp2_with ((refine wpList_index ?hw _ _ _ rfl _ rfl k _ rfl rfl _ hix.out ?_; (case hw => (first | rfl | (simp [Region.wanted, yielded]; done)))))
          go_ret
          exact ⟨by rw [HV.out]; rfl, hB⟩
      · have d1 : decide (f k < -1099511627776) = true := decide_eq_true (by omega)
        have HV := Lib.hid (show okQ f = false from okQ_no hkn (by omega))
        clear h1
        go_wp2_with ((refine wpList_index ?hw _ _ _ rfl _ rfl k _ rfl rfl _ hix.out ?_; (case hw => (first | rfl | (simp [Region.wanted, yielded]; done)))))
        go_ret
        exact ⟨by rw [HV.out]; rfl, hB⟩
    · obtain rfl : k = 4 := by omega
      have HV := Lib.hid ((okQ_iff f).2 hall.out)
      go_wp2_with (fail)
      go_ret
      exact ⟨by rw [HV.out]; rfl, hB⟩
end Go.Proofs.Ythkklhfnmodpnaa
