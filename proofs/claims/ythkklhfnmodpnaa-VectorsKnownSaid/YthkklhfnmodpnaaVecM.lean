/-
  Matrices of nine numbers: rows, and what it is that one is valid.
-/
import Derived.Test.YthkklhfnmodpnaaVecF
import Derived.Deep.MidRow
set_option linter.unusedSimpArgs false
set_option linter.unusedVariables false
namespace Go.Proofs.Ythkklhfnmodpnaa
open Go.RowKit PM Dt
/-- Nine numbers, as cells. -/
def mfn (g : Nat → Int) : Array Value := ((List.range 9).map fun i => Value.int .i64 (g i)).toArray
theorem mfn_size (g : Nat → Int) : (mfn g).size = 9 := by simp [mfn]
theorem mfn_one (g : Nat → Int) : (mfn g).all (·.oneCell') = true := by simp [mfn, Value.oneCell']
theorem mfn_get (g : Nat → Int) {i : Nat} (h : i < 9) : (mfn g)[i]? = some (.int .i64 (g i)) := by simp [mfn, List.getElem?_range h]
theorem mfn_congr {f g : Nat → Int} (h : ∀ i, i < 9 → f i = g i) : mfn f = mfn g := by
  apply Array.ext_getElem?
  intro j
  by_cases hj : j < 9
  · rw [mfn_get _ hj, mfn_get _ hj, h j hj]
  · rw [Array.getElem?_eq_none (by rw [mfn_size]; omega), Array.getElem?_eq_none (by rw [mfn_size]; omega)]
theorem mfn_set {f g : Nat → Int} {i : Nat} {v : Int} (h : i < 9) (hx : v = g i) (hg : ∀ j, j < 9 → j ≠ i → f j = g j) : (mfn f).setIfInBounds i (.int .i64 v) = mfn g := by
  subst hx
  apply Array.ext_getElem?
  intro j
  rw [Array.getElem?_setIfInBounds, mfn_size]
  by_cases hj : j < 9
  · by_cases e : i = j
    · subst e; rw [if_pos rfl, if_pos h, mfn_get _ h]
    · rw [if_neg e, mfn_get _ hj, mfn_get _ hj, hg j hj (Ne.symm e)]
  · by_cases e : i = j
    · omega
    · rw [if_neg e, Array.getElem?_eq_none (by rw [mfn_size]; omega), Array.getElem?_eq_none (by rw [mfn_size]; omega)]
theorem zero_mat : #[Value.int .i64 0, .int .i64 0, .int .i64 0, .int .i64 0, .int .i64 0, .int .i64 0, .int .i64 0, .int .i64 0, .int .i64 0] = mfn (fun _ => 0) := rfl
attribute [irreducible] mfn
/-- Row r. -/
def mrow (g : Nat → Int) (r : Nat) : Nat → Int := fun k => g (3 * r + k)
def okM (g : Nat → Int) : Bool := okV (mrow g 0) && (okV (mrow g 1) && okV (mrow g 2))
theorem okM_iff (g : Nat → Int) : okM g = true ↔ ∀ r, r < 3 → okV (mrow g r) = true := by
  unfold okM
  rw [Bool.and_eq_true, Bool.and_eq_true]
  constructor
  · rintro ⟨h0, h1, h2⟩ i hi
    have : i = 0 ∨ i = 1 ∨ i = 2 := by omega
    rcases this with rfl | rfl | rfl <;> assumption
  · intro h; exact ⟨h 0 (by omega), h 1 (by omega), h 2 (by omega)⟩
theorem mrow_cells (g : Nat → Int) (r : Nat) : [Value.int .i64 (g (3 * r)), .int .i64 (g (3 * r + 1)), .int .i64 (g (3 * r + 2))].toArray = vfn (mrow g r) := by unfold vfn mrow; rfl
theorem mrow_range {w : World} {b : Nat} {g : Nat → Int} {t : TypeId} (p : blk w b (mfn g) t) {r : Nat} (hr : r < 3) : w.rangeAt b (3 * r) [Value.int .i64 (g (3 * r)), .int .i64 (g (3 * r + 1)), .int .i64 (g (3 * r + 2))] := by
  intro j v hv
  have hj : j < 3 := by
    have := (List.getElem?_eq_some_iff.1 hv).1
    simpa using this
  have : j = 0 ∨ j = 1 ∨ j = 2 := by omega
  rcases this with rfl | rfl | rfl
  · simp at hv; subst hv; exact p.cellIs (mfn_get g (by omega))
  · simp at hv; subst hv; exact p.cellIs (mfn_get g (by omega))
  · simp at hv; subst hv; exact p.cellIs (mfn_get g (by omega))
theorem run_load_sub (w : World) (b r : Nat) (g : Nat → Int) {t : TypeId} (hr : r < 3) (p : blk w b (mfn g) t) : (loadVar 23 ⟨b, 3 * r, none⟩).run Try.prog w = .ok (.agg (vfn (mrow g r))) w := by
  rw [← mrow_cells]
  exact run_loadVar_mid w b (3 * r) 23 _ _ (mrow_range p hr) Try.underlying23 rfl (by kernel_rfl)
theorem wpList_load_sub {ops : Array Oper} {rest : List Oper} {o : Oper} {a : Act} {w : World} {Q : Exit → Act → World → Prop} (hw : Region.wanted o (yielded ops a.tmps) = true) (x : Operand) (ho : o.op = .load 23 x)
    (b r : Nat) (g : Nat → Int) {off : Nat} (hx : a.eval x = .pointer (some ⟨b, off, none⟩)) (hoff : off = 3 * r) (hr : r < 3) {t : TypeId} (p : blk w b (mfn g) t)
    (h : wpList Try.prog ops Q rest (a.put o.dst (.agg (vfn (mrow g r)))) w) : wpList Try.prog ops Q (o :: rest) a w :=
  wpList_step fun K hK => by
    rw [if_pos hw]
    subst hoff
    unfold Oper.wp execOp
    simp only [ho, hx, Instr.loadAt, Instr.sureAddr, Sem.run_bind, Sem.run_pure, Result.andThen_ok, run_load_sub w b r g hr p]
    exact hK _ _ h
theorem detR_sub {v : Value} {o : Oper} {a : Act} {w : World} (x : Operand) (ho : o.op = .load 23 x) (b r : Nat) (g : Nat → Int) {off : Nat} (hx : a.eval x = .pointer (some ⟨b, off, none⟩)) (hoff : off = 3 * r) (hr : r < 3) {t : TypeId} (p : blk w b (mfn g) t)
    (hv : v = .agg (vfn (mrow g r))) : DetR Try.prog (More w) v ((execOp a.eval o).run Try.prog w) := by
  subst hoff
  unfold execOp
  simp only [ho, hx, Instr.loadAt, Instr.sureAddr, Sem.run_bind, Sem.run_pure, Result.andThen_ok, run_load_sub w b r g hr p]
  exact ⟨hv.symm, Below.refl _ _⟩
/-- A row as a slice. -/
theorem intsRow {w : World} {b r : Nat} {g : Nat → Int} {t : TypeId} (h : blk w b (mfn g) t) (hr : r < 3) : Ints w (.slice (some ⟨b, 3 * r, none⟩) 3 3) [mrow g r 0, mrow g r 1, mrow g r 2] :=
  Or.inr ⟨by simp, b, 3 * r, 3, rfl, h.lt, fun k hk => by
    have hk : k < 3 := hk
    refine (h.cellIs (mfn_get g (by omega))).trans ?_
    have : k = 0 ∨ k = 1 ∨ k = 2 := by omega
    rcases this with rfl | rfl | rfl <;> rfl⟩
set_option maxRecDepth 100000 in
set_option maxHeartbeats 1000000 in
theorem mvalid_any (g : Nat → Int) (w : World) : Calls Try.prog 58 #[.agg (mfn g)] w fun e w' => e = .returned (.bool (okM g)) ∧ Below w.heap.size w w' := by
  have W0 := Lib.hid (fun w => valid_any (mrow g 0) w)
  have W1 := Lib.hid (fun w => valid_any (mrow g 1) w)
  have W2 := Lib.hid (fun w => valid_any (mrow g 2) w)
  have p0 : blk (w.alloc (.cells (mfn g) 25)) w.heap.size (mfn g) 25 := blk.new _ _ _
  have hB0 : Below w.heap.size w (w.alloc (.cells (mfn g) 25)) := by go_grown
  unfold okM
  generalize okV (mrow g 0) = b0 at *
  generalize okV (mrow g 1) = b1 at *
  generalize okV (mrow g 2) = b2 at *
  cases b0 <;> cases b1 <;> cases b2
  all_goals
    go_enter Try.func58, Try.ntmps58
    go_upto_region 1 with (fail)
    have p := p0
    have hB := hB0
    generalize w.alloc (.cells (mfn g) 25) = w0 at *
    go_wp2_with (first
      | (refine wpList_load_sub ?hw _ rfl w.heap.size 0 g rfl rfl (by omega) p ?_; (case hw => (first | rfl | (simp [Region.wanted, yielded]; done))))
      | (refine wpList_load_sub ?hw _ rfl w.heap.size 1 g rfl rfl (by omega) p ?_; (case hw => (first | rfl | (simp [Region.wanted, yielded]; done))))
      | (refine wpList_load_sub ?hw _ rfl w.heap.size 2 g rfl rfl (by omega) p ?_; (case hw => (first | rfl | (simp [Region.wanted, yielded]; done))))
      | (go_at_call 59; with_reducible refine (W0.out _).mono ?_; rintro e w1 ⟨rfl, hb⟩; replace hB := hB.trans (hb.mono hB.size); replace p := p.below hb p.lt; clear hb)
      | (go_at_call 59; with_reducible refine (W1.out _).mono ?_; rintro e w1 ⟨rfl, hb⟩; replace hB := hB.trans (hb.mono hB.size); replace p := p.below hb p.lt; clear hb)
      | (go_at_call 59; with_reducible refine (W2.out _).mono ?_; rintro e w1 ⟨rfl, hb⟩; replace hB := hB.trans (hb.mono hB.size); replace p := p.below hb p.lt; clear hb))
    go_ret
    exact ⟨rfl, hB⟩
set_option maxRecDepth 100000 in
set_option maxHeartbeats 1000000 in
theorem rmvalid_any (g : Nat → Int) (w : World) : Calls Try.prog 62 #[.agg (mfn g)] w fun e w' => e = .returned (.bool (okM g)) ∧ Below w.heap.size w w' := by
  have W0 := Lib.hid (fun w => rvalid_any (mrow g 0) w)
  have W1 := Lib.hid (fun w => rvalid_any (mrow g 1) w)
  have W2 := Lib.hid (fun w => rvalid_any (mrow g 2) w)
  have p0 : blk (w.alloc (.cells (mfn g) 25)) w.heap.size (mfn g) 25 := blk.new _ _ _
  have hB0 : Below w.heap.size w (w.alloc (.cells (mfn g) 25)) := by go_grown
  unfold okM
  generalize okV (mrow g 0) = b0 at *
  generalize okV (mrow g 1) = b1 at *
  generalize okV (mrow g 2) = b2 at *
  cases b0 <;> cases b1 <;> cases b2
  all_goals
    go_enter Try.func62, Try.ntmps62
    go_upto_region 1 with (fail)
    have p := p0
    have hB := hB0
    generalize w.alloc (.cells (mfn g) 25) = w0 at *
    go_wp2_with (first
      | (refine wpList_load_sub ?hw _ rfl w.heap.size 0 g rfl rfl (by omega) p ?_; (case hw => (first | rfl | (simp [Region.wanted, yielded]; done))))
      | (refine wpList_load_sub ?hw _ rfl w.heap.size 1 g rfl rfl (by omega) p ?_; (case hw => (first | rfl | (simp [Region.wanted, yielded]; done))))
      | (refine wpList_load_sub ?hw _ rfl w.heap.size 2 g rfl rfl (by omega) p ?_; (case hw => (first | rfl | (simp [Region.wanted, yielded]; done))))
      | (go_at_call 63; with_reducible refine (W0.out _).mono ?_; rintro e w1 ⟨rfl, hb⟩; replace hB := hB.trans (hb.mono hB.size); replace p := p.below hb p.lt; clear hb)
      | (go_at_call 63; with_reducible refine (W1.out _).mono ?_; rintro e w1 ⟨rfl, hb⟩; replace hB := hB.trans (hb.mono hB.size); replace p := p.below hb p.lt; clear hb)
      | (go_at_call 63; with_reducible refine (W2.out _).mono ?_; rintro e w1 ⟨rfl, hb⟩; replace hB := hB.trans (hb.mono hB.size); replace p := p.below hb p.lt; clear hb))
    go_ret
    exact ⟨rfl, hB⟩
end Go.Proofs.Ythkklhfnmodpnaa
