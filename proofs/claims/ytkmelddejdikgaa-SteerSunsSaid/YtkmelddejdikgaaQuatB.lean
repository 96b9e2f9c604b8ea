/-
  Quaternions of four numbers: what it is that one is bounded, conjugates, and what it is that one is valid, in the package and in its specification. Conjugates of quaternions, and what it is that one is valid, in the package and in its specification.
-/
import Derived.Test.YtkmelddejdikgaaVecF
import Derived.Test.YtkmelddejdikgaaBase
set_option linter.unusedSimpArgs false
set_option linter.unusedVariables false
namespace Go.Proofs.Ytkmelddejdikgaa
open Go.RowKit PM Dt
def qfn (f : Nat → Int) : Array Value := #[.int .i64 (f 0), .int .i64 (f 1), .int .i64 (f 2), .int .i64 (f 3)]
theorem qfn_size (f : Nat → Int) : (qfn f).size = 4 := rfl
theorem qfn_one (f : Nat → Int) : (qfn f).all (·.oneCell') = true := by simp [qfn, Value.oneCell']
theorem qfn_get (f : Nat → Int) {i : Nat} (h : i < 4) : (qfn f)[i]? = some (.int .i64 (f i)) := by
  have : i = 0 ∨ i = 1 ∨ i = 2 ∨ i = 3 := by omega
  rcases this with rfl | rfl | rfl | rfl <;> rfl
theorem qfn_congr {f g : Nat → Int} (h : ∀ i, i < 4 → f i = g i) : qfn f = qfn g := by
  unfold qfn; rw [h 0 (by omega), h 1 (by omega), h 2 (by omega), h 3 (by omega)]
theorem zero_quat : #[Value.int .i64 0, .int .i64 0, .int .i64 0, .int .i64 0] = qfn (fun _ => 0) := rfl
def okQ (f : Nat → Int) : Bool := vb (f 0) && (vb (f 1) && (vb (f 2) && vb (f 3)))
theorem okQ_iff (f : Nat → Int) : okQ f = true ↔ ∀ i, i < 4 → vb (f i) = true := by
  unfold okQ
  rw [Bool.and_eq_true, Bool.and_eq_true, Bool.and_eq_true]
  constructor
  · rintro ⟨h0, h1, h2, h3⟩ i hi
    have : i = 0 ∨ i = 1 ∨ i = 2 ∨ i = 3 := by omega
    rcases this with rfl | rfl | rfl | rfl <;> assumption
  · intro h; exact ⟨h 0 (by omega), h 1 (by omega), h 2 (by omega), h 3 (by omega)⟩
theorem okQ_no {f : Nat → Int} {i : Nat} (h : i < 4) (hb : ¬ (-1099511627776 ≤ f i ∧ f i ≤ 1099511627776)) : okQ f = false := by
  rw [Bool.eq_false_iff]; intro h2
  exact hb ((vb_iff _).1 ((okQ_iff f).1 h2 i h))
attribute [irreducible] qfn
theorem ints4 {w : World} {b : Nat} {f : Nat → Int} {t : TypeId} (h : blk w b (qfn f) t) : Ints w (.slice (some ⟨b, 0, none⟩) 4 4) [f 0, f 1, f 2, f 3] :=
  Or.inr ⟨by simp, b, 0, 4, rfl, h.lt, fun k hk => by
    have hk : k < 4 := hk
    rw [Nat.zero_add]
    refine (h.cellIs (qfn_get f hk)).trans ?_
    have : k = 0 ∨ k = 1 ∨ k = 2 ∨ k = 3 := by omega
    rcases this with rfl | rfl | rfl | rfl <;> rfl⟩
theorem list_I4 {f : Nat → Int} (h : ∀ i, i < 4 → I64 (f i)) : ∀ k, k < [f 0, f 1, f 2, f 3].length → I64 ([f 0, f 1, f 2, f 3].getD k 0) := by
  intro k hk
  have hk : k < 4 := hk
  have : k = 0 ∨ k = 1 ∨ k = 2 ∨ k = 3 := by omega
  rcases this with rfl | rfl | rfl | rfl
  · exact h 0 (by omega)
  · exact h 1 (by omega)
  · exact h 2 (by omega)
  · exact h 3 (by omega)
theorem qidx (f : Nat → Int) {k : Nat} (h : k < 4) (w : World) : (Instr.index 23 (.agg (qfn f)) (.int .i64 k)).run Try.prog w = .ok (.int .i64 (f k)) w := by
  obtain ⟨i, hi⟩ : ∃ i, Try.prog.info? 2 = some i := Option.isSome_iff_exists.1 (by kernel_rfl)
  exact run_index_cell (P := Try.prog) (n := 4) Try.underlying23 Try.underlying2 rfl hi (by kernel_rfl) h (qfn_get f h) w
set_option maxRecDepth 100000 in
set_option maxHeartbeats 2000000 in
theorem bounded_any (f : Nat → Int) (w : World) : Calls Try.prog 124 #[.agg (qfn f)] w fun e w' => e = .returned (.bool (okQ f)) ∧ Below w.heap.size w w' := by
  go_enter Try.func124, Try.ntmps124
  have p0 := blk.new w (qfn f) 23
  go_wp2_with ((refine wpList_load_rowG ?hw _ _ rfl _ rfl _ _ _ _ p0 Try.underlying23 rfl ?hi ?_; (case hw => (first | rfl | (simp [Region.wanted, yielded]; done))); (case hi => (rw [qfn_size]; kernel_rfl))))
  have hB0 : Below w.heap.size w (w.alloc (.cells (qfn f) 23)) := by go_grown
  clear p0
  generalize w.alloc (.cells (qfn f) 23) = w0 at *
  go_loopg [6] 4 (fun g iv wr => ∃ k : Nat, g + k = 4 ∧ iv = .int .i64 k ∧ Hid (∀ j, j < k → vb (f j) = true) ∧ Below w.heap.size w wr)
  case atStart => exact ⟨0, rfl, rfl, fun j hj => by omega, hB0⟩
  case round =>
    clear hB0
    obtain ⟨k, hk, rfl, hall, hB⟩ := hrel
    by_cases hkn : k < 4
    · have hdk : decide ((k : Int) < 4) = true := decide_eq_true (by omega)
      have hdk' : decide (k < 4) = true := decide_eq_true (by omega)
      have hw3 : IntKind.i64.wrap ((k : Int) + 1) = ((k + 1 : Nat) : Int) := by rw [IntKind.wrap_i64]; omega
      have hix : Hid (∀ w, (Instr.index 23 (.agg (qfn f)) (.int .i64 k)).run Try.prog w = .ok (.int .i64 (f k)) w) := fun w => qidx f hkn w
      by_cases h1 : -1099511627776 ≤ f k
      · have d1 : decide (f k < -1099511627776) = false := decide_eq_false (by omega)
        by_cases h2 : f k ≤ 1099511627776
        · have d2 : decide (1099511627776 < f k) = false := decide_eq_false (by omega)
          have HV := Lib.hid ((vb_iff _).2 ⟨h1, h2⟩)
          clear h1 h2
          go_wp2_with ((refine wpList_index ?hw _ _ _ rfl _ rfl k _ rfl rfl _ hix.out ?_; (case hw => (first | rfl | (simp [Region.wanted, yielded]; done)))))
          go_roundg (4 - (k + 1))
          case rel =>
            refine ⟨k + 1, by omega, rfl, fun j hj => ?_, hB⟩
            by_cases e : j = k
            · subst e; exact HV.out
            · exact hall.out j (by omega)
          case measure => omega
        · have d2 : decide (1099511627776 < f k) = true := decide_eq_true (by omega)
          have HV := Lib.hid (show okQ f = false from okQ_no hkn (by omega))
          clear h1 h2
          go_wp2_with ((refine wpList_index ?hw _ _ _ rfl _ rfl k _ rfl rfl _ hix.out ?_; (case hw => (first | rfl | (simp [Region.wanted, yielded]; done)))))
          go_ret
          exact ⟨by rw [HV.out]; rfl, hB⟩
      · have d1 : decide (f k < -1099511627776) = true := decide_eq_true (by omega)
        have HV := Lib.hid (show okQ f = false from okQ_no hkn (by omega))
        clear h1
        go_wp2_with ((refine wpList_index ?hw _ _ _ rfl _ rfl k _ rfl rfl _ hix.out ?_; (case hw => (first | rfl | (simp [Region.wanted, yielded]; done)))))
        go_ret
        exact ⟨by rw [HV.out]; rfl, hB⟩
    · obtain rfl : k = 4 := by omega
      have HV := Lib.hid ((okQ_iff f).2 hall.out)
      go_wp2_with (fail)
      go_ret
      exact ⟨by rw [HV.out]; rfl, hB⟩
end Go.Proofs.Ytkmelddejdikgaa
namespace Go.Proofs.Ytkmelddejdikgaa
open Go.RowKit PM Dt
def conjF (f : Nat → Int) : Nat → Int
  | 0 => f 0
  | i => wrap64 (-f i)
def nQ (f : Nat → Int) : Int := hypQ [f 0, f 1, f 2, f 3]
def validQ (f : Nat → Int) : Bool := (fitE (nQ f) == 0) && (decide (1073741820 ≤ fitV (nQ f)) && decide (fitV (nQ f) ≤ 1073741828))
theorem sqs4 (f : Nat → Int) : sqs [f 0, f 1, f 2, f 3] = (f 0).natAbs * (f 0).natAbs + ((f 1).natAbs * (f 1).natAbs + ((f 2).natAbs * (f 2).natAbs + ((f 3).natAbs * (f 3).natAbs + 0))) := by
  rw [sqs_cons, sqs_cons, sqs_cons, sqs_cons, sqs_nil]
theorem hyp4_any (f : Nat → Int) (b : Nat) (w : World) (t : TypeId) (h : ∀ i, i < 4 → I64 (f i)) (p : blk w b (qfn f) t) :
    Calls Try.prog 80 #[.slice (some ⟨b, 0, none⟩) 4 4] w fun e w' => e = .returned (.tuple #[.int .i64 (fitV (nQ f)), .int .i64 (fitE (nQ f))]) ∧ w = w' :=
  (hypot_any [f 0, f 1, f 2, f 3] _ w (ints4 p) (list_I4 h)).mono fun e w' h => ⟨h.1.trans (by rw [if_neg (by simp), if_neg (by simp)]; rfl), h.2⟩
theorem sq_bd {a : Int} (h1 : -1099511627776 ≤ a) (h2 : a ≤ 1099511627776) : a.natAbs * a.natAbs ≤ 1208925819614629174706176 :=
  Nat.le_trans (Nat.mul_le_mul (show a.natAbs ≤ 1099511627776 by omega) (show a.natAbs ≤ 1099511627776 by omega)) (by decide)
theorem nQ_ok {f : Nat → Int} (h : okQ f = true) : fitE (nQ f) = 0 ∧ fitV (nQ f) = nQ f := by
  have b : ∀ i, i < 4 → (f i).natAbs * (f i).natAbs ≤ 1208925819614629174706176 := fun i hi => by
    have := (vb_iff _).1 ((okQ_iff f).1 h i hi)
    exact sq_bd this.1 this.2
  have b0 := b 0 (by omega)
  have b1 := b 1 (by omega)
  have b2 := b 2 (by omega)
  have b3 := b 3 (by omega)
  have hs : sqs [f 0, f 1, f 2, f 3] < 9223372036854775808 * 9223372036854775808 := by rw [sqs4]; omega
  have hr : isqrt (sqs [f 0, f 1, f 2, f 3]) < 9223372036854775808 := (isqrt_lt (Nat.lt_trans hs (by decide))).2 hs
  have := fit_of (q := nQ f) (by unfold nQ hypQ; omega) (by unfold nQ hypQ; omega)
  exact ⟨this.2, this.1⟩
theorem sq_gt {a : Int} (h : ¬ (-1099511627776 ≤ a ∧ a ≤ 1099511627776)) : 1208925819614629174706176 ≤ a.natAbs * a.natAbs :=
  Nat.le_trans (show 1208925819614629174706176 ≤ 1099511627776 * 1099511627776 by decide) (Nat.mul_le_mul (show 1099511627776 ≤ a.natAbs by omega) (show 1099511627776 ≤ a.natAbs by omega))
theorem sqs4_le {f : Nat → Int} (h : ∀ i, i < 4 → I64 (f i)) : sqs [f 0, f 1, f 2, f 3] < 4 ^ 200 :=
  Nat.lt_of_le_of_lt (sqs_le [f 0, f 1, f 2, f 3] 8 (by simp) (list_I4 h)) (by decide)
theorem nQ_bad {f : Nat → Int} (hI : ∀ i, i < 4 → I64 (f i)) (h : okQ f = false) : validQ f = false := by
  have hex : ∃ i, i < 4 ∧ ¬ (-1099511627776 ≤ f i ∧ f i ≤ 1099511627776) := by
    apply Classical.byContradiction
    intro hn
    have : okQ f = true := (okQ_iff f).2 fun i hi => (vb_iff _).2 (Classical.byContradiction fun hc => hn ⟨i, hi, hc⟩)
    rw [h] at this; cases this
  obtain ⟨i, hi, hb⟩ := hex
  have hg := sq_gt hb
  have hs : 1099511627776 * 1099511627776 ≤ sqs [f 0, f 1, f 2, f 3] := by
    rw [sqs4]
    have : i = 0 ∨ i = 1 ∨ i = 2 ∨ i = 3 := by omega
    rcases this with rfl | rfl | rfl | rfl <;> omega
  have hr : 1099511627776 ≤ isqrt (sqs [f 0, f 1, f 2, f 3]) := (isqrt_ge (sqs4_le hI)).2 hs
  unfold validQ
  cases hq : inI (nQ f) with
  | false => rw [fitE_no hq]; rfl
  | true =>
    rw [fitV_yes hq]
    have : decide (nQ f ≤ 1073741828) = false := decide_eq_false (by unfold nQ hypQ; omega)
    rw [this, Bool.and_false, Bool.and_false]
set_option maxRecDepth 100000 in
set_option maxHeartbeats 1000000 in
theorem qvalid_any (f : Nat → Int) (w : World) (hI : ∀ i, i < 4 → I64 (f i)) : Calls Try.prog 33 #[.agg (qfn f)] w fun e w' => e = .returned (.bool (validQ f)) ∧ Below w.heap.size w w' := by
  have H := Lib.hid (fun b w t p => hyp4_any f b w t hI p)
  unfold validQ
  generalize fitV (nQ f) = N at *
  generalize fitE (nQ f) = E at *
  clear hI
  go_enter Try.func33, Try.ntmps33
  go_upto_region 1 with (fail)
  have p : blk (w.alloc (.cells (qfn f) 23)) w.heap.size (qfn f) 23 := blk.new _ _ _
  have hB : Below w.heap.size w (w.alloc (.cells (qfn f) 23)) := by go_grown
  generalize w.alloc (.cells (qfn f) 23) = w0 at *
  by_cases h0 : E = 0
  · have d0 : (E == 0) = true := by simp [h0]
    clear h0
    by_cases h1 : (1073741820 : Int) ≤ N
    · have d1 : decide ((1073741820 : Int) ≤ N) = true := decide_eq_true h1
      by_cases h2 : N ≤ 1073741828
      · have d2 : decide (N ≤ 1073741828) = true := decide_eq_true h2
        clear h1 h2
        go_wp2_with (go_at_call 80; refine (H.out _ _ _ p).mono ?_; rintro e w1 ⟨rfl, rfl⟩)
        go_ret
        exact ⟨by first | rfl | (simp only [d0, d1, d2]; rfl) | (simp only [d0, d1]; rfl), hB⟩
      · have d2 : decide (N ≤ 1073741828) = false := decide_eq_false h2
        clear h1 h2
        go_wp2_with (go_at_call 80; refine (H.out _ _ _ p).mono ?_; rintro e w1 ⟨rfl, rfl⟩)
        go_ret
        exact ⟨by first | rfl | (simp only [d0, d1, d2]; rfl) | (simp only [d0, d1]; rfl), hB⟩
    · have d1 : decide ((1073741820 : Int) ≤ N) = false := decide_eq_false h1
      clear h1
      go_wp2_with (go_at_call 80; refine (H.out _ _ _ p).mono ?_; rintro e w1 ⟨rfl, rfl⟩)
      go_ret
      exact ⟨by first | rfl | (simp only [d0, d1, d2]; rfl) | (simp only [d0, d1]; rfl), hB⟩
  · have d0 : (E == 0) = false := by simp [h0]
    clear h0
    go_wp2_with (go_at_call 80; refine (H.out _ _ _ p).mono ?_; rintro e w1 ⟨rfl, rfl⟩)
    go_ret
    exact ⟨by first | rfl | (simp only [d0]; rfl), hB⟩
end Go.Proofs.Ytkmelddejdikgaa
