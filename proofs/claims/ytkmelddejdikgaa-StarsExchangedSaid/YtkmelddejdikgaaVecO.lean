/-
  Matrices of nine numbers: rows, and what it is that one is valid. The product of a matrix and a vector: Apply, in the package and in its specification. Columns of matrices, the transposed matrix, and its product with a vector: Back.
-/
import Derived.Test.YtkmelddejdikgaaVecF
import Derived.Deep.MidRow
import Derived.Test.YtkmelddejdikgaaBase
set_option linter.unusedSimpArgs false
set_option linter.unusedVariables false
namespace Go.Proofs.Ytkmelddejdikgaa
open Go.RowKit PM Dt
/-- Nine numbers, as cells. -/
def mfn (g : Nat → Int) : Array Value := ((List.range 9).map fun i => Value.int .i64 (g i)).toArray
theorem mfn_size (g : Nat → Int) : (mfn g).size = 9 := by simp [mfn]
theorem mfn_one (g : Nat → Int) : (mfn g).all (·.oneCell') = true := by simp [mfn, Value.oneCell']
theorem mfn_get (g : Nat → Int) {i : Nat} (h : i < 9) : (mfn g)[i]? = some (.int .i64 (g i)) := by simp [mfn, List.getElem?_range h]
theorem mfn_congr {f g : Nat → Int} (h : ∀ i, i < 9 → f i = g i) : mfn f = mfn g := by
  apply Array.ext_getElem?
  intro j
  by_cases hj : j < 9
  · rw [mfn_get _ hj, mfn_get _ hj, h j hj]
  · rw [Array.getElem?_eq_none (by rw [mfn_size]; omega), Array.getElem?_eq_none (by rw [mfn_size]; omega)]
theorem mfn_set {f g : Nat → Int} {i : Nat} {v : Int} (h : i < 9) (hx : v = g i) (hg : ∀ j, j < 9 → j ≠ i → f j = g j) : (mfn f).setIfInBounds i (.int .i64 v) = mfn g := by
  subst hx
  apply Array.ext_getElem?
  intro j
  rw [Array.getElem?_setIfInBounds, mfn_size]
  by_cases hj : j < 9
  · by_cases e : i = j
    · subst e; rw [if_pos rfl, if_pos h, mfn_get _ h]
    · rw [if_neg e, mfn_get _ hj, mfn_get _ hj, hg j hj (Ne.symm e)]
  · by_cases e : i = j
    · omega
    · rw [if_neg e, Array.getElem?_eq_none (by rw [mfn_size]; omega), Array.getElem?_eq_none (by rw [mfn_size]; omega)]
theorem zero_mat : #[Value.int .i64 0, .int .i64 0, .int .i64 0, .int .i64 0, .int .i64 0, .int .i64 0, .int .i64 0, .int .i64 0, .int .i64 0] = mfn (fun _ => 0) := rfl
attribute [irreducible] mfn
/-- Row r. -/
def mrow (g : Nat → Int) (r : Nat) : Nat → Int := fun k => g (3 * r + k)
def okM (g : Nat → Int) : Bool := okV (mrow g 0) && (okV (mrow g 1) && okV (mrow g 2))
theorem okM_iff (g : Nat → Int) : okM g = true ↔ ∀ r, r < 3 → okV (mrow g r) = true := by
  unfold okM
  rw [Bool.and_eq_true, Bool.and_eq_true]
  constructor
  · rintro ⟨h0, h1, h2⟩ i hi
    have : i = 0 ∨ i = 1 ∨ i = 2 := by omega
    rcases this with rfl | rfl | rfl <;> assumption
  · intro h; exact ⟨h 0 (by omega), h 1 (by omega), h 2 (by omega)⟩
theorem mrow_cells (g : Nat → Int) (r : Nat) : [Value.int .i64 (g (3 * r)), .int .i64 (g (3 * r + 1)), .int .i64 (g (3 * r + 2))].toArray = vfn (mrow g r) := by unfold vfn mrow; rfl
theorem mrow_range {w : World} {b : Nat} {g : Nat → Int} {t : TypeId} (p : blk w b (mfn g) t) {r : Nat} (hr : r < 3) : w.rangeAt b (3 * r) [Value.int .i64 (g (3 * r)), .int .i64 (g (3 * r + 1)), .int .i64 (g (3 * r + 2))] := by
  intro j v hv
  have hj : j < 3 := by
    have := (List.getElem?_eq_some_iff.1 hv).1
    simpa using this
  have : j = 0 ∨ j = 1 ∨ j = 2 := by omega
  rcases this with rfl | rfl | rfl
  · simp at hv; subst hv; exact p.cellIs (mfn_get g (by omega))
  · simp at hv; subst hv; exact p.cellIs (mfn_get g (by omega))
  · simp at hv; subst hv; exact p.cellIs (mfn_get g (by omega))
theorem run_load_sub (w : World) (b r : Nat) (g : Nat → Int) {t : TypeId} (hr : r < 3) (p : blk w b (mfn g) t) : (loadVar 31 ⟨b, 3 * r, none⟩).run Try.prog w = .ok (.agg (vfn (mrow g r))) w := by
  rw [← mrow_cells]
  exact run_loadVar_mid w b (3 * r) 31 _ _ (mrow_range p hr) Try.underlying31 rfl (by kernel_rfl)
theorem wpList_load_sub {ops : Array Oper} {rest : List Oper} {o : Oper} {a : Act} {w : World} {Q : Exit → Act → World → Prop} (hw : Region.wanted o (yielded ops a.tmps) = true) (x : Operand) (ho : o.op = .load 31 x)
    (b r : Nat) (g : Nat → Int) {off : Nat} (hx : a.eval x = .pointer (some ⟨b, off, none⟩)) (hoff : off = 3 * r) (hr : r < 3) {t : TypeId} (p : blk w b (mfn g) t)
    (h : wpList Try.prog ops Q rest (a.put o.dst (.agg (vfn (mrow g r)))) w) : wpList Try.prog ops Q (o :: rest) a w :=
  wpList_step fun K hK => by
    rw [if_pos hw]
    subst hoff
    unfold Oper.wp execOp
    simp only [ho, hx, Instr.loadAt, Instr.sureAddr, Sem.run_bind, Sem.run_pure, Result.andThen_ok, run_load_sub w b r g hr p]
    exact hK _ _ h
set_option maxRecDepth 100000 in
set_option maxHeartbeats 1000000 in
theorem mvalid_any (g : Nat → Int) (w : World) : Calls Try.prog 158 #[.agg (mfn g)] w fun e w' => e = .returned (.bool (okM g)) ∧ Below w.heap.size w w' := by
  have W0 := Lib.hid (fun w => valid_any (mrow g 0) w)
  have W1 := Lib.hid (fun w => valid_any (mrow g 1) w)
  have W2 := Lib.hid (fun w => valid_any (mrow g 2) w)
  have p0 : blk (w.alloc (.cells (mfn g) 168)) w.heap.size (mfn g) 168 := blk.new _ _ _
  have hB0 : Below w.heap.size w (w.alloc (.cells (mfn g) 168)) := by go_grown
  unfold okM
  generalize okV (mrow g 0) = b0 at *
  generalize okV (mrow g 1) = b1 at *
  generalize okV (mrow g 2) = b2 at *
  cases b0 <;> cases b1 <;> cases b2
  all_goals
    go_enter Try.func158, Try.ntmps158
    go_upto_region 1 with (fail)
    have p := p0
    have hB := hB0
    generalize w.alloc (.cells (mfn g) 168) = w0 at *
    go_wp2_with (first
      | (refine wpList_load_sub ?hw _ rfl w.heap.size 0 g rfl rfl (by omega) p ?_; (case hw => (first | rfl | (simp [Region.wanted, yielded]; done))))
      | (refine wpList_load_sub ?hw _ rfl w.heap.size 1 g rfl rfl (by omega) p ?_; (case hw => (first | rfl | (simp [Region.wanted, yielded]; done))))
      | (refine wpList_load_sub ?hw _ rfl w.heap.size 2 g rfl rfl (by omega) p ?_; (case hw => (first | rfl | (simp [Region.wanted, yielded]; done))))
      | (go_at_call 78; with_reducible refine (W0.out _).mono ?_; rintro e w1 ⟨rfl, hb⟩; replace hB := hB.trans (hb.mono hB.size); replace p := p.below hb p.lt; clear hb)
      | (go_at_call 78; with_reducible refine (W1.out _).mono ?_; rintro e w1 ⟨rfl, hb⟩; replace hB := hB.trans (hb.mono hB.size); replace p := p.below hb p.lt; clear hb)
      | (go_at_call 78; with_reducible refine (W2.out _).mono ?_; rintro e w1 ⟨rfl, hb⟩; replace hB := hB.trans (hb.mono hB.size); replace p := p.below hb p.lt; clear hb))
    go_ret
    exact ⟨rfl, hB⟩
end Go.Proofs.Ytkmelddejdikgaa
namespace Go.Proofs.Ytkmelddejdikgaa
open Go.RowKit PM Dt
end Go.Proofs.Ytkmelddejdikgaa
namespace Go.Proofs.Ytkmelddejdikgaa
open Go.RowKit PM Dt
/-- Column k. -/
def mcol (g : Nat → Int) (k : Nat) : Nat → Int := fun r => g (3 * r + k)
theorem okM_cell {g : Nat → Int} (h : okM g = true) {i : Nat} (hi : i < 9) : vb (g i) = true := by
  have h1 := (okV_iff _).1 ((okM_iff g).1 h (i / 3) (by omega)) (i % 3) (by omega)
  unfold mrow at h1
  rw [show 3 * (i / 3) + i % 3 = i by omega] at h1
  exact h1
theorem okV_col {g : Nat → Int} (h : okM g = true) {k : Nat} (hk : k < 3) : okV (mcol g k) = true := (okV_iff _).2 fun r hr => okM_cell h (by omega)
set_option maxRecDepth 100000 in
set_option maxHeartbeats 1000000 in
theorem colC0 (g : Nat → Int) (w : World) : Calls Try.prog 173 #[.agg (mfn g), .int .i64 0] w fun e w' => ∃ nb, e = .returned (.slice (some ⟨nb, 0, none⟩) 3 3) ∧ blk w' nb (vfn (mcol g 0)) 2 ∧ Below w.heap.size w w' := by
  go_enter Try.func173, Try.ntmps173
  go_upto_region 1 with (fail)
  have p : blk (w.alloc (.cells (mfn g) 168)) w.heap.size (mfn g) 168 := blk.new _ _ _
  have hB : Below w.heap.size w (w.alloc (.cells (mfn g) 168)) := by go_grown
  generalize w.alloc (.cells (mfn g) 168) = w0 at *
  have HX : Hid (#[Value.int .i64 (g 0), .int .i64 (g 3), .int .i64 (g 6)] = vfn (mcol g 0)) := by show _ = _; unfold vfn; rfl
  refine wp_region_X 12 (by kernel_rfl) (by kernel_rfl) ?_
  replace p := p.drew
  replace hB : Below w.heap.size w w0.drew := hB.drew
  generalize w0.drew = wo at *
  refine wpX_take 0 (.int .i64 0) rfl rfl (by kernel_rfl) (fun w1 h1 => by go_simp; exact ⟨rfl, Below.refl _ _⟩) ?_
  simp only [Act.put, List.setIfInBounds_toArray, List.set_cons_zero, List.set_cons_succ]
  refine wpX_take 1 (.pointer (some ⟨w.heap.size, 0, none⟩)) rfl rfl (by kernel_rfl) (fun w1 h1 => by go_simp; exact ⟨rfl, Below.refl _ _⟩) ?_
  simp only [Act.put, List.setIfInBounds_toArray, List.set_cons_zero, List.set_cons_succ]
  refine wpX_take 2 (.pointer (some ⟨w.heap.size, 0, none⟩)) rfl rfl (by kernel_rfl) (fun w1 h1 => by go_simp; exact ⟨rfl, Below.refl _ _⟩) ?_
  simp only [Act.put, List.setIfInBounds_toArray, List.set_cons_zero, List.set_cons_succ]
  refine wpX_take 3 (.int .i64 (g 0)) rfl rfl (by kernel_rfl) (fun w1 h1 => by have hc : w1.cell? ⟨w.heap.size, 0, none⟩ = some (.int .i64 (g 0)) := (p.below h1 p.lt).cellIs (mfn_get _ (by omega)); go_simp; exact ⟨rfl, Below.refl _ _⟩) ?_
  simp only [Act.put, List.setIfInBounds_toArray, List.set_cons_zero, List.set_cons_succ]
  refine wpX_take 4 (.int .i64 0) rfl rfl (by kernel_rfl) (fun w1 h1 => by go_simp; exact ⟨rfl, Below.refl _ _⟩) ?_
  simp only [Act.put, List.setIfInBounds_toArray, List.set_cons_zero, List.set_cons_succ]
  refine wpX_take 5 (.pointer (some ⟨w.heap.size, 3, none⟩)) rfl rfl (by kernel_rfl) (fun w1 h1 => by go_simp; exact ⟨rfl, Below.refl _ _⟩) ?_
  simp only [Act.put, List.setIfInBounds_toArray, List.set_cons_zero, List.set_cons_succ]
  refine wpX_take 6 (.pointer (some ⟨w.heap.size, 3, none⟩)) rfl rfl (by kernel_rfl) (fun w1 h1 => by go_simp; exact ⟨rfl, Below.refl _ _⟩) ?_
  simp only [Act.put, List.setIfInBounds_toArray, List.set_cons_zero, List.set_cons_succ]
  refine wpX_take 7 (.int .i64 (g 3)) rfl rfl (by kernel_rfl) (fun w1 h1 => by have hc : w1.cell? ⟨w.heap.size, 3, none⟩ = some (.int .i64 (g 3)) := (p.below h1 p.lt).cellIs (mfn_get _ (by omega)); go_simp; exact ⟨rfl, Below.refl _ _⟩) ?_
  simp only [Act.put, List.setIfInBounds_toArray, List.set_cons_zero, List.set_cons_succ]
  refine wpX_take 8 (.int .i64 0) rfl rfl (by kernel_rfl) (fun w1 h1 => by go_simp; exact ⟨rfl, Below.refl _ _⟩) ?_
  simp only [Act.put, List.setIfInBounds_toArray, List.set_cons_zero, List.set_cons_succ]
  refine wpX_take 9 (.pointer (some ⟨w.heap.size, 6, none⟩)) rfl rfl (by kernel_rfl) (fun w1 h1 => by go_simp; exact ⟨rfl, Below.refl _ _⟩) ?_
  simp only [Act.put, List.setIfInBounds_toArray, List.set_cons_zero, List.set_cons_succ]
  refine wpX_take 10 (.pointer (some ⟨w.heap.size, 6, none⟩)) rfl rfl (by kernel_rfl) (fun w1 h1 => by go_simp; exact ⟨rfl, Below.refl _ _⟩) ?_
  simp only [Act.put, List.setIfInBounds_toArray, List.set_cons_zero, List.set_cons_succ]
  refine wpX_take 11 (.int .i64 (g 6)) rfl rfl (by kernel_rfl) (fun w1 h1 => by have hc : w1.cell? ⟨w.heap.size, 6, none⟩ = some (.int .i64 (g 6)) := (p.below h1 p.lt).cellIs (mfn_get _ (by omega)); go_simp; exact ⟨rfl, Below.refl _ _⟩) ?_
  simp only [Act.put, List.setIfInBounds_toArray, List.set_cons_zero, List.set_cons_succ]
  refine wpX_tail (by kernel_rfl) (fun wt ht => ?_)
  simp only [List.drop_succ_cons, List.drop_zero]
  replace hB := hB.trans (ht.mono hB.size)
  go_wp2_with (fail)
  go_ret
  exact ⟨_, rfl, by rw [← HX.out]; exact blk.new _ _ _, hB.alloc hB.size _⟩
set_option maxRecDepth 100000 in
set_option maxHeartbeats 1000000 in
theorem colC1 (g : Nat → Int) (w : World) : Calls Try.prog 173 #[.agg (mfn g), .int .i64 1] w fun e w' => ∃ nb, e = .returned (.slice (some ⟨nb, 0, none⟩) 3 3) ∧ blk w' nb (vfn (mcol g 1)) 2 ∧ Below w.heap.size w w' := by
  go_enter Try.func173, Try.ntmps173
  go_upto_region 1 with (fail)
  have p : blk (w.alloc (.cells (mfn g) 168)) w.heap.size (mfn g) 168 := blk.new _ _ _
  have hB : Below w.heap.size w (w.alloc (.cells (mfn g) 168)) := by go_grown
  generalize w.alloc (.cells (mfn g) 168) = w0 at *
  have HX : Hid (#[Value.int .i64 (g 1), .int .i64 (g 4), .int .i64 (g 7)] = vfn (mcol g 1)) := by show _ = _; unfold vfn; rfl
  refine wp_region_X 12 (by kernel_rfl) (by kernel_rfl) ?_
  replace p := p.drew
  replace hB : Below w.heap.size w w0.drew := hB.drew
  generalize w0.drew = wo at *
  refine wpX_take 0 (.int .i64 1) rfl rfl (by kernel_rfl) (fun w1 h1 => by go_simp; exact ⟨rfl, Below.refl _ _⟩) ?_
  simp only [Act.put, List.setIfInBounds_toArray, List.set_cons_zero, List.set_cons_succ]
  refine wpX_take 1 (.pointer (some ⟨w.heap.size, 0, none⟩)) rfl rfl (by kernel_rfl) (fun w1 h1 => by go_simp; exact ⟨rfl, Below.refl _ _⟩) ?_
  simp only [Act.put, List.setIfInBounds_toArray, List.set_cons_zero, List.set_cons_succ]
  refine wpX_take 2 (.pointer (some ⟨w.heap.size, 1, none⟩)) rfl rfl (by kernel_rfl) (fun w1 h1 => by go_simp; exact ⟨rfl, Below.refl _ _⟩) ?_
  simp only [Act.put, List.setIfInBounds_toArray, List.set_cons_zero, List.set_cons_succ]
  refine wpX_take 3 (.int .i64 (g 1)) rfl rfl (by kernel_rfl) (fun w1 h1 => by have hc : w1.cell? ⟨w.heap.size, 1, none⟩ = some (.int .i64 (g 1)) := (p.below h1 p.lt).cellIs (mfn_get _ (by omega)); go_simp; exact ⟨rfl, Below.refl _ _⟩) ?_
  simp only [Act.put, List.setIfInBounds_toArray, List.set_cons_zero, List.set_cons_succ]
  refine wpX_take 4 (.int .i64 1) rfl rfl (by kernel_rfl) (fun w1 h1 => by go_simp; exact ⟨rfl, Below.refl _ _⟩) ?_
  simp only [Act.put, List.setIfInBounds_toArray, List.set_cons_zero, List.set_cons_succ]
  refine wpX_take 5 (.pointer (some ⟨w.heap.size, 3, none⟩)) rfl rfl (by kernel_rfl) (fun w1 h1 => by go_simp; exact ⟨rfl, Below.refl _ _⟩) ?_
  simp only [Act.put, List.setIfInBounds_toArray, List.set_cons_zero, List.set_cons_succ]
  refine wpX_take 6 (.pointer (some ⟨w.heap.size, 4, none⟩)) rfl rfl (by kernel_rfl) (fun w1 h1 => by go_simp; exact ⟨rfl, Below.refl _ _⟩) ?_
  simp only [Act.put, List.setIfInBounds_toArray, List.set_cons_zero, List.set_cons_succ]
  refine wpX_take 7 (.int .i64 (g 4)) rfl rfl (by kernel_rfl) (fun w1 h1 => by have hc : w1.cell? ⟨w.heap.size, 4, none⟩ = some (.int .i64 (g 4)) := (p.below h1 p.lt).cellIs (mfn_get _ (by omega)); go_simp; exact ⟨rfl, Below.refl _ _⟩) ?_
  simp only [Act.put, List.setIfInBounds_toArray, List.set_cons_zero, List.set_cons_succ]
  refine wpX_take 8 (.int .i64 1) rfl rfl (by kernel_rfl) (fun w1 h1 => by go_simp; exact ⟨rfl, Below.refl _ _⟩) ?_
  simp only [Act.put, List.setIfInBounds_toArray, List.set_cons_zero, List.set_cons_succ]
  refine wpX_take 9 (.pointer (some ⟨w.heap.size, 6, none⟩)) rfl rfl (by kernel_rfl) (fun w1 h1 => by go_simp; exact ⟨rfl, Below.refl _ _⟩) ?_
  simp only [Act.put, List.setIfInBounds_toArray, List.set_cons_zero, List.set_cons_succ]
  refine wpX_take 10 (.pointer (some ⟨w.heap.size, 7, none⟩)) rfl rfl (by kernel_rfl) (fun w1 h1 => by go_simp; exact ⟨rfl, Below.refl _ _⟩) ?_
  simp only [Act.put, List.setIfInBounds_toArray, List.set_cons_zero, List.set_cons_succ]
  refine wpX_take 11 (.int .i64 (g 7)) rfl rfl (by kernel_rfl) (fun w1 h1 => by have hc : w1.cell? ⟨w.heap.size, 7, none⟩ = some (.int .i64 (g 7)) := (p.below h1 p.lt).cellIs (mfn_get _ (by omega)); go_simp; exact ⟨rfl, Below.refl _ _⟩) ?_
  simp only [Act.put, List.setIfInBounds_toArray, List.set_cons_zero, List.set_cons_succ]
  refine wpX_tail (by kernel_rfl) (fun wt ht => ?_)
  simp only [List.drop_succ_cons, List.drop_zero]
  replace hB := hB.trans (ht.mono hB.size)
  go_wp2_with (fail)
  go_ret
  exact ⟨_, rfl, by rw [← HX.out]; exact blk.new _ _ _, hB.alloc hB.size _⟩
set_option maxRecDepth 100000 in
set_option maxHeartbeats 1000000 in
theorem colC2 (g : Nat → Int) (w : World) : Calls Try.prog 173 #[.agg (mfn g), .int .i64 2] w fun e w' => ∃ nb, e = .returned (.slice (some ⟨nb, 0, none⟩) 3 3) ∧ blk w' nb (vfn (mcol g 2)) 2 ∧ Below w.heap.size w w' := by
  go_enter Try.func173, Try.ntmps173
  go_upto_region 1 with (fail)
  have p : blk (w.alloc (.cells (mfn g) 168)) w.heap.size (mfn g) 168 := blk.new _ _ _
  have hB : Below w.heap.size w (w.alloc (.cells (mfn g) 168)) := by go_grown
  generalize w.alloc (.cells (mfn g) 168) = w0 at *
  have HX : Hid (#[Value.int .i64 (g 2), .int .i64 (g 5), .int .i64 (g 8)] = vfn (mcol g 2)) := by show _ = _; unfold vfn; rfl
  refine wp_region_X 12 (by kernel_rfl) (by kernel_rfl) ?_
  replace p := p.drew
  replace hB : Below w.heap.size w w0.drew := hB.drew
  generalize w0.drew = wo at *
  refine wpX_take 0 (.int .i64 2) rfl rfl (by kernel_rfl) (fun w1 h1 => by go_simp; exact ⟨rfl, Below.refl _ _⟩) ?_
  simp only [Act.put, List.setIfInBounds_toArray, List.set_cons_zero, List.set_cons_succ]
  refine wpX_take 1 (.pointer (some ⟨w.heap.size, 0, none⟩)) rfl rfl (by kernel_rfl) (fun w1 h1 => by go_simp; exact ⟨rfl, Below.refl _ _⟩) ?_
  simp only [Act.put, List.setIfInBounds_toArray, List.set_cons_zero, List.set_cons_succ]
  refine wpX_take 2 (.pointer (some ⟨w.heap.size, 2, none⟩)) rfl rfl (by kernel_rfl) (fun w1 h1 => by go_simp; exact ⟨rfl, Below.refl _ _⟩) ?_
  simp only [Act.put, List.setIfInBounds_toArray, List.set_cons_zero, List.set_cons_succ]
  refine wpX_take 3 (.int .i64 (g 2)) rfl rfl (by kernel_rfl) (fun w1 h1 => by have hc : w1.cell? ⟨w.heap.size, 2, none⟩ = some (.int .i64 (g 2)) := (p.below h1 p.lt).cellIs (mfn_get _ (by omega)); go_simp; exact ⟨rfl, Below.refl _ _⟩) ?_
  simp only [Act.put, List.setIfInBounds_toArray, List.set_cons_zero, List.set_cons_succ]
  refine wpX_take 4 (.int .i64 2) rfl rfl (by kernel_rfl) (fun w1 h1 => by go_simp; exact ⟨rfl, Below.refl _ _⟩) ?_
  simp only [Act.put, List.setIfInBounds_toArray, List.set_cons_zero, List.set_cons_succ]
  refine wpX_take 5 (.pointer (some ⟨w.heap.size, 3, none⟩)) rfl rfl (by kernel_rfl) (fun w1 h1 => by go_simp; exact ⟨rfl, Below.refl _ _⟩) ?_
  simp only [Act.put, List.setIfInBounds_toArray, List.set_cons_zero, List.set_cons_succ]
  refine wpX_take 6 (.pointer (some ⟨w.heap.size, 5, none⟩)) rfl rfl (by kernel_rfl) (fun w1 h1 => by go_simp; exact ⟨rfl, Below.refl _ _⟩) ?_
  simp only [Act.put, List.setIfInBounds_toArray, List.set_cons_zero, List.set_cons_succ]
  refine wpX_take 7 (.int .i64 (g 5)) rfl rfl (by kernel_rfl) (fun w1 h1 => by have hc : w1.cell? ⟨w.heap.size, 5, none⟩ = some (.int .i64 (g 5)) := (p.below h1 p.lt).cellIs (mfn_get _ (by omega)); go_simp; exact ⟨rfl, Below.refl _ _⟩) ?_
  simp only [Act.put, List.setIfInBounds_toArray, List.set_cons_zero, List.set_cons_succ]
  refine wpX_take 8 (.int .i64 2) rfl rfl (by kernel_rfl) (fun w1 h1 => by go_simp; exact ⟨rfl, Below.refl _ _⟩) ?_
  simp only [Act.put, List.setIfInBounds_toArray, List.set_cons_zero, List.set_cons_succ]
  refine wpX_take 9 (.pointer (some ⟨w.heap.size, 6, none⟩)) rfl rfl (by kernel_rfl) (fun w1 h1 => by go_simp; exact ⟨rfl, Below.refl _ _⟩) ?_
  simp only [Act.put, List.setIfInBounds_toArray, List.set_cons_zero, List.set_cons_succ]
  refine wpX_take 10 (.pointer (some ⟨w.heap.size, 8, none⟩)) rfl rfl (by kernel_rfl) (fun w1 h1 => by go_simp; exact ⟨rfl, Below.refl _ _⟩) ?_
  simp only [Act.put, List.setIfInBounds_toArray, List.set_cons_zero, List.set_cons_succ]
  refine wpX_take 11 (.int .i64 (g 8)) rfl rfl (by kernel_rfl) (fun w1 h1 => by have hc : w1.cell? ⟨w.heap.size, 8, none⟩ = some (.int .i64 (g 8)) := (p.below h1 p.lt).cellIs (mfn_get _ (by omega)); go_simp; exact ⟨rfl, Below.refl _ _⟩) ?_
  simp only [Act.put, List.setIfInBounds_toArray, List.set_cons_zero, List.set_cons_succ]
  refine wpX_tail (by kernel_rfl) (fun wt ht => ?_)
  simp only [List.drop_succ_cons, List.drop_zero]
  replace hB := hB.trans (ht.mono hB.size)
  go_wp2_with (fail)
  go_ret
  exact ⟨_, rfl, by rw [← HX.out]; exact blk.new _ _ _, hB.alloc hB.size _⟩
theorem col_any (g : Nat → Int) (k : Nat) (w : World) (hk : k < 3) : Calls Try.prog 173 #[.agg (mfn g), .int .i64 k] w fun e w' => ∃ nb, e = .returned (.slice (some ⟨nb, 0, none⟩) 3 3) ∧ blk w' nb (vfn (mcol g k)) 2 ∧ Below w.heap.size w w' := by
  have : k = 0 ∨ k = 1 ∨ k = 2 := by omega
  rcases this with rfl | rfl | rfl
  · exact colC0 g w
  · exact colC1 g w
  · exact colC2 g w
def backX (g f : Nat → Int) (i : Nat) : Int := rnd (d3 (mcol g i) f)
theorem dotcol_any (x f : Nat → Int) (b c : Nat) (t : TypeId) (w : World) (hx : okV x = true) (hf : okV f = true) (p : blk w b (vfn x) t) (q : blk w c (vfn f) 31) :
    Calls Try.prog 60 #[.slice (some ⟨b, 0, none⟩) 3 3, .slice (some ⟨c, 0, none⟩) 3 3] w fun e w' => e = .returned (.tuple #[.int .i64 (rnd (d3 x f)), .int .i64 0]) ∧ Below w.heap.size w w' :=
  (dot_any [x 0, x 1, x 2] [f 0, f 1, f 2] _ _ w (ints3 p) (ints3 q) (list_I3 (okV_I hx)) (list_I3 (okV_I hf))).mono fun e w' h => ⟨h.1.trans (by rw [(d3_fit hx hf).1, (d3_fit hx hf).2]), h.2⟩
set_option maxRecDepth 100000 in
set_option maxHeartbeats 1000000 in
theorem backC_any (g f : Nat → Int) (b c : Nat) (w : World) (hg : okM g = true) (hf : okV f = true) (p : blk w b (mfn g) 168) (q : blk w c (vfn f) 31) (i : Nat) (hi : i < 3) :
    Calls Try.prog 172 #[.int .i64 i, .pointer (some ⟨b, 0, none⟩), .pointer (some ⟨c, 0, none⟩)] w fun e w' => e = .returned (.tuple #[.int .i64 (backX g f i), .int .i64 0]) ∧ Below w.heap.size w w' := by
  have D := Lib.hid (fun b c t w p q => dotcol_any (mcol g i) f b c t w (okV_col hg hi) hf p q)
  have CL := Lib.hid (fun w => col_any g i w hi)
  unfold backX
  generalize rnd (d3 (mcol g i) f) = X at *
  clear hg hf hi
  go_enter Try.func172, Try.ntmps172
  go_upto_region 1 with (fail)
  have hB : More w w := Below.refl _ _
  refine wp_region_Y 99 9 rfl (by kernel_rfl) ?_
  replace p := p.drew
  replace q := q.drew
  replace hB : More w w.drew := hB.drew
  generalize w.drew = wo at *
  refine wpY_takeA 0 (.agg (mfn g)) rfl rfl (by kernel_rfl) (by kernel_rfl) (fun w1 h1 => detR_row _ _ rfl _ rfl _ _ _ (p.below h1 p.lt) Try.underlying168 rfl (by rw [mfn_size]; kernel_rfl) rfl) ?_
  simp only [Act.put, List.setIfInBounds_toArray, List.set_cons_zero, List.set_cons_succ]
  refine wpY_takeB 1 (.int .i64 i) rfl rfl (by kernel_rfl) (fun w1 => by go_simp; exact ⟨rfl, Below.refl _ _⟩) ?_
  simp only [Act.put, List.setIfInBounds_toArray, List.set_cons_zero, List.set_cons_succ]
  refine wpY_takeB 3 (.slice (some ⟨c, 0, none⟩) 3 3) rfl rfl (by kernel_rfl) (fun w1 => by go_simp; exact ⟨rfl, Below.refl _ _⟩) ?_
  simp only [Act.put, List.setIfInBounds_toArray, List.set_cons_zero, List.set_cons_succ]
  refine wpY_more1 2 rfl rfl (by kernel_rfl) (fun w1 h1 K hK => ?_)
  go_simp
  refine (CL.out _).mono ?_
  rintro e w2 ⟨nb, rfl, pc, hm⟩
  refine hK _ _ hm ?_
  replace hB := More.trans hB (More.trans h1 hm)
  replace q := (q.below h1 q.lt).below hm (by have := q.lt; have := h1.size; omega)
  clear hK K h1 hm p
  try simp only [Act.put, List.setIfInBounds_toArray, List.set_cons_zero, List.set_cons_succ]
  refine wpY_takeA 4 (.tuple #[.int .i64 X, .int .i64 0]) rfl rfl (by kernel_rfl) (by kernel_rfl) (fun w1 h1 => ?_) ?_
  · go_simp
    refine (D.out _ _ _ _ (pc.below h1 pc.lt) (q.below h1 q.lt)).mono ?_
    rintro e w3 ⟨rfl, h2⟩
    exact ⟨rfl, h2⟩
  simp only [Act.put, List.setIfInBounds_toArray, List.set_cons_zero, List.set_cons_succ]
  refine wpY_takeB 5 (.int .i64 X) rfl rfl (by kernel_rfl) (fun w1 => by go_simp; exact ⟨rfl, Below.refl _ _⟩) ?_
  simp only [Act.put, List.setIfInBounds_toArray, List.set_cons_zero, List.set_cons_succ]
  refine wpY_takeB 6 (.int .i64 0) rfl rfl (by kernel_rfl) (fun w1 => by go_simp; exact ⟨rfl, Below.refl _ _⟩) ?_
  simp only [Act.put, List.setIfInBounds_toArray, List.set_cons_zero, List.set_cons_succ]
  refine wpY_takeB 7 (.int .i64 X) rfl rfl (by kernel_rfl) (fun w1 => by go_simp; exact ⟨rfl, Below.refl _ _⟩) ?_
  simp only [Act.put, List.setIfInBounds_toArray, List.set_cons_zero, List.set_cons_succ]
  refine wpY_takeB 8 (.int .i64 0) rfl rfl (by kernel_rfl) (fun w1 => by go_simp; exact ⟨rfl, Below.refl _ _⟩) ?_
  simp only [Act.put, List.setIfInBounds_toArray, List.set_cons_zero, List.set_cons_succ]
  refine wpY_end (by kernel_rfl) (fun w3 h3 => ?_)
  replace hB := More.trans hB h3
  go_wp2_with (fail)
  go_ret2
  exact ⟨rfl, hB⟩
set_option maxRecDepth 100000 in
set_option maxHeartbeats 2000000 in
theorem eachBack_any (x er : Nat → Int) (c1 c2 : Value) (w : World)
    (hf : Hid (∀ i : Nat, i < 3 → ∀ w1, Below w.heap.size w w1 → Calls Try.prog 172 #[.int .i64 i, c1, c2] w1 fun e w' => e = .returned (.tuple #[.int .i64 (x i), .int .i64 (er i)]) ∧ Below w1.heap.size w1 w')) :
    Calls Try.prog 81 #[.bool true, .func (.func 172) #[] #[c1, c2]] w fun e w' => e = .returned (.tuple #[.agg (vfn (eachF x er)), .int .i64 (eachE x er)]) ∧ Below w.heap.size w w' := by
  go_enter Try.func81, Try.ntmps81
  go_upto_region 2 with (fail)
  rw [zero_vec]
  have p : blk ((w.alloc (.cells (vfn fun _ => 0) 31)).alloc (.cells (vfn fun _ => 0) 31)) w.heap.size (vfn fun _ => 0) 31 := (blk.new _ _ _).alloc _
  have q : blk ((w.alloc (.cells (vfn fun _ => 0) 31)).alloc (.cells (vfn fun _ => 0) 31)) (w.heap.size + 1) (vfn fun _ => 0) 31 := blk.new' (by simp)
  have hB : Below w.heap.size w ((w.alloc (.cells (vfn fun _ => 0) 31)).alloc (.cells (vfn fun _ => 0) 31)) := by go_grown
  generalize (w.alloc (.cells (vfn fun _ => 0) 31)).alloc (.cells (vfn fun _ => 0) 31) = w0 at *
  go_wp2_with (fail)
  go_loopg [13] 3 (fun g iv wr => ∃ k : Nat, g + k = 3 ∧ iv = .int .i64 k ∧ Hid (∀ j, j < k → er j = 0 ∧ vb (x j) = true) ∧ blk wr w.heap.size (vfn fun _ => 0) 31 ∧ blk wr (w.heap.size + 1) (vfn (pre3 x k)) 31 ∧ Below w.heap.size w wr)
  case atStart => exact ⟨0, rfl, rfl, fun j hj => by omega, p, by rw [show vfn (pre3 x 0) = vfn (fun _ => 0) from vfn_congr fun i _ => by simp [pre3]]; exact q, hB⟩
  case round =>
    clear p q hB
    obtain ⟨k, hk, rfl, hall, p, q, hB⟩ := hrel
    by_cases hkn : k < 3
    · have hdk : decide ((k : Int) < 3) = true := decide_eq_true (by omega)
      have hdk' : decide (k < 3) = true := decide_eq_true (by omega)
      have hw3 : IntKind.i64.wrap ((k : Int) + 1) = ((k + 1 : Nat) : Int) := by rw [IntKind.wrap_i64]; omega
      have W0 := Lib.hid (fun w => within_any (x k) w)
      have HC := Lib.hid (hf.out k hkn)
      by_cases he : er k = 0
      · have de : (er k != 0) = false := by simp [he]
        have HE := Lib.hid he
        obtain ⟨b, hb⟩ : ∃ b, vb (x k) = b := ⟨_, rfl⟩
        rw [hb] at W0
        have HVB := Lib.hid hb
        clear hb he
        cases b
        · have HG := Lib.hid (show goodE x er = false from goodE_no hkn (by rintro ⟨_, h⟩; rw [HVB.out] at h; cases h))
          go_wp2_with (first
            | (go_at_call 172; refine (HC.out _ hB).mono ?_; rintro e w1 ⟨rfl, hb⟩; replace hB := hB.trans (hb.mono hB.size); replace p := p.below hb p.lt; replace q := q.below hb q.lt; clear hb)
            | (go_at_call 137; refine (W0.out _).mono ?_; rintro e w1 ⟨rfl, rfl⟩)
            | (rw [zero_vec]; refine wpList_store_row rfl _ _ _ rfl _ rfl _ rfl _ _ p (by rw [vfn_size]; kernel_rfl) (by simp only [vfn_size]) (vfn_one _) ?_))
          refine bodyPost_ret (results_vec rfl _ _ _ _ _ _ _ rfl (p.row (vfn (fun _ => 0))) Try.underlying31 rfl (by rw [vfn_size]; kernel_rfl)) rfl ?_; refine ⟨?_, Below.setRow hB (Nat.le_refl _) _⟩
          unfold eachF eachE; rw [HG.out]; rfl
        · go_upto_region 8 with (go_at_call 172; refine (HC.out _ hB).mono ?_; rintro e w1 ⟨rfl, hb⟩; replace hB := hB.trans (hb.mono hB.size); replace p := p.below hb p.lt; replace q := q.below hb q.lt; clear hb)
          have fz : w1.frozen? ⟨w.heap.size + 1, k, none⟩ = false := q.free _
          have cz : w1.cell? ⟨w.heap.size + 1, k, none⟩ = some (.int .i64 (pre3 x k k)) := q.cellIs (vfn_get _ hkn)
          go_wp2_with (go_at_call 137; refine (W0.out _).mono ?_; rintro e w1 ⟨rfl, rfl⟩)
          go_roundg (3 - (k + 1))
          case rel =>
            refine ⟨k + 1, by omega, rfl, fun j hj => ?_, p.setOther (by simp) _, q.set' (vfn_set hkn ?_ ?_), hB.setCell (by simp) _⟩
            · by_cases e : j = k
              · subst e; exact ⟨HE.out, HVB.out⟩
              · exact hall.out j (by omega)
            · simp [pre3]
            · intro j hj hne; simp only [pre3]; split <;> split <;> first | rfl | omega
          case measure => omega
      · have de : (er k != 0) = true := by simpa using he
        have HG := Lib.hid (show goodE x er = false from goodE_no hkn (by rintro ⟨h, _⟩; exact he h))
        clear he
        go_wp2_with (first
          | (go_at_call 172; refine (HC.out _ hB).mono ?_; rintro e w1 ⟨rfl, hb⟩; replace hB := hB.trans (hb.mono hB.size); replace p := p.below hb p.lt; replace q := q.below hb q.lt; clear hb)
          | (rw [zero_vec]; refine wpList_store_row rfl _ _ _ rfl _ rfl _ rfl _ _ p (by rw [vfn_size]; kernel_rfl) (by simp only [vfn_size]) (vfn_one _) ?_))
        refine bodyPost_ret (results_vec rfl _ _ _ _ _ _ _ rfl (p.row (vfn (fun _ => 0))) Try.underlying31 rfl (by rw [vfn_size]; kernel_rfl)) rfl ?_; refine ⟨?_, Below.setRow hB (Nat.le_refl _) _⟩
        unfold eachF eachE; rw [HG.out]; rfl
    · obtain rfl : k = 3 := by omega
      have HG := Lib.hid ((goodE_iff x er).2 hall.out)
      have e3 : vfn (pre3 x 3) = vfn x := vfn_congr fun i hi => by simp [pre3, hi]
      rw [e3] at q
      go_wp2_with (first | (refine wpList_load_rowG ?hw _ _ rfl _ rfl _ _ _ _ q Try.underlying31 rfl ?hi ?_; (case hw => (first | rfl | (simp [Region.wanted, yielded]; done))); (case hi => (rw [vfn_size]; kernel_rfl))) | (refine wpList_store_row rfl _ _ _ rfl _ rfl _ rfl _ _ p (by rw [vfn_size]; kernel_rfl) (by simp only [vfn_size]) (vfn_one _) ?_))
      refine bodyPost_ret (results_vec rfl _ _ _ _ _ _ _ rfl (p.row (vfn x)) Try.underlying31 rfl (by rw [vfn_size]; kernel_rfl)) rfl ?_; refine ⟨?_, Below.setRow hB (Nat.le_refl _) _⟩
      unfold eachF eachE; rw [HG.out]; rfl
def vbackF (g f : Nat → Int) : Nat → Int := if okM g && okV f then resF (backX g f) else fun _ => 0
def vbackE (g f : Nat → Int) : Int := if okM g && okV f then resE (backX g f) else 2
set_option maxRecDepth 100000 in
set_option maxHeartbeats 2000000 in
theorem vback_any (g f : Nat → Int) (w : World) : Calls Try.prog 128 #[.agg (mfn g), .agg (vfn f)] w fun e w' => e = .returned (.tuple #[.agg (vfn (vbackF g f)), .int .i64 (vbackE g f)]) ∧ Below w.heap.size w w' := by
  have V1 := Lib.hid (fun w => mvalid_any g w)
  have V2 := Lib.hid (fun w => valid_any f w)
  have hk : ∃ F E, (okM g = true → okV f = true → F = resF (backX g f) ∧ E = resE (backX g f)) ∧ vbackF g f = (if okM g && okV f then F else fun _ => 0) ∧ vbackE g f = (if okM g && okV f then E else 2) := ⟨_, _, fun _ _ => ⟨rfl, rfl⟩, rfl, rfl⟩
  obtain ⟨F, E, hk, e1, e2⟩ := hk
  rw [e1, e2]
  clear e1 e2
  have HK := Lib.hid hk
  clear hk
  obtain ⟨bf, hf⟩ : ∃ b, okM g = b := ⟨_, rfl⟩
  obtain ⟨bg, hg⟩ : ∃ b, okV f = b := ⟨_, rfl⟩
  rw [hf] at V1 HK ⊢
  rw [hg] at V2 HK ⊢
  have HF := Lib.hid hf
  have HG := Lib.hid hg
  clear hf hg
  go_enter Try.func128, Try.ntmps128
  go_upto_region 1 with (fail)
  rw [zero_vec]
  have p : blk (((w.alloc (.cells (mfn g) 168)).alloc (.cells (vfn f) 31)).alloc (.cells (vfn fun _ => 0) 31)) w.heap.size (mfn g) 168 := ((blk.new _ _ _).alloc _).alloc _
  have q : blk (((w.alloc (.cells (mfn g) 168)).alloc (.cells (vfn f) 31)).alloc (.cells (vfn fun _ => 0) 31)) (w.heap.size + 1) (vfn f) 31 := (blk.new' (by simp)).alloc _
  have r : blk (((w.alloc (.cells (mfn g) 168)).alloc (.cells (vfn f) 31)).alloc (.cells (vfn fun _ => 0) 31)) (w.heap.size + 1 + 1) (vfn fun _ => 0) 31 := blk.new' (by simp)
  have hB : Below w.heap.size w (((w.alloc (.cells (mfn g) 168)).alloc (.cells (vfn f) 31)).alloc (.cells (vfn fun _ => 0) 31)) := by go_grown
  generalize ((w.alloc (.cells (mfn g) 168)).alloc (.cells (vfn f) 31)).alloc (.cells (vfn fun _ => 0) 31) = w0 at *
  cases bf
  · go_wp2_with (first
      | (refine wpList_load_rowG ?hw _ _ rfl _ rfl _ _ _ _ p Try.underlying168 rfl ?hi ?_; (case hw => (first | rfl | (simp [Region.wanted, yielded]; done))); (case hi => (rw [mfn_size]; kernel_rfl)))
      | (refine wpList_load_rowG ?hw _ _ rfl _ rfl _ _ _ _ q Try.underlying31 rfl ?hi ?_; (case hw => (first | rfl | (simp [Region.wanted, yielded]; done))); (case hi => (rw [vfn_size]; kernel_rfl)))
      | (go_at_call 158; with_reducible refine (V1.out _).mono ?_; rintro e w1 ⟨rfl, hb⟩; replace hB := hB.trans (hb.mono hB.size); replace p := p.below hb p.lt; replace q := q.below hb q.lt; replace r := r.below hb r.lt; clear hb)
      | (go_at_call 78; with_reducible refine (V2.out _).mono ?_; rintro e w1 ⟨rfl, hb⟩; replace hB := hB.trans (hb.mono hB.size); replace p := p.below hb p.lt; replace q := q.below hb q.lt; replace r := r.below hb r.lt; clear hb)
      | (go_at_call 81; refine (each_no _ _).mono ?_; rintro e w2 ⟨rfl, hb⟩; replace hB := hB.trans (hb.mono hB.size); replace r := r.below hb r.lt; clear hb)
      | (refine wpList_store_row rfl _ _ _ rfl _ rfl _ rfl _ _ r (by rw [vfn_size]; kernel_rfl) (by simp only [vfn_size]) (vfn_one _) ?_))
    refine bodyPost_ret (results_vec rfl _ _ _ _ _ _ _ rfl (r.row (vfn (fun _ => 0))) Try.underlying31 rfl (by rw [vfn_size]; kernel_rfl)) rfl ?_; refine ⟨?_, Below.setRow hB (by omega) _⟩
    rfl
  cases bg
  · go_wp2_with (first
      | (refine wpList_load_rowG ?hw _ _ rfl _ rfl _ _ _ _ p Try.underlying168 rfl ?hi ?_; (case hw => (first | rfl | (simp [Region.wanted, yielded]; done))); (case hi => (rw [mfn_size]; kernel_rfl)))
      | (refine wpList_load_rowG ?hw _ _ rfl _ rfl _ _ _ _ q Try.underlying31 rfl ?hi ?_; (case hw => (first | rfl | (simp [Region.wanted, yielded]; done))); (case hi => (rw [vfn_size]; kernel_rfl)))
      | (go_at_call 158; with_reducible refine (V1.out _).mono ?_; rintro e w1 ⟨rfl, hb⟩; replace hB := hB.trans (hb.mono hB.size); replace p := p.below hb p.lt; replace q := q.below hb q.lt; replace r := r.below hb r.lt; clear hb)
      | (go_at_call 78; with_reducible refine (V2.out _).mono ?_; rintro e w1 ⟨rfl, hb⟩; replace hB := hB.trans (hb.mono hB.size); replace p := p.below hb p.lt; replace q := q.below hb q.lt; replace r := r.below hb r.lt; clear hb)
      | (go_at_call 81; refine (each_no _ _).mono ?_; rintro e w2 ⟨rfl, hb⟩; replace hB := hB.trans (hb.mono hB.size); replace r := r.below hb r.lt; clear hb)
      | (refine wpList_store_row rfl _ _ _ rfl _ rfl _ rfl _ _ r (by rw [vfn_size]; kernel_rfl) (by simp only [vfn_size]) (vfn_one _) ?_))
    refine bodyPost_ret (results_vec rfl _ _ _ _ _ _ _ rfl (r.row (vfn (fun _ => 0))) Try.underlying31 rfl (by rw [vfn_size]; kernel_rfl)) rfl ?_; refine ⟨?_, Below.setRow hB (by omega) _⟩
    rfl
  obtain ⟨hF, hE⟩ := HK.out rfl rfl
  have HFE := Lib.hid (And.intro hF hE)
  clear HK hF hE
  go_wp2_with (first
      | (refine wpList_load_rowG ?hw _ _ rfl _ rfl _ _ _ _ p Try.underlying168 rfl ?hi ?_; (case hw => (first | rfl | (simp [Region.wanted, yielded]; done))); (case hi => (rw [mfn_size]; kernel_rfl)))
      | (refine wpList_load_rowG ?hw _ _ rfl _ rfl _ _ _ _ q Try.underlying31 rfl ?hi ?_; (case hw => (first | rfl | (simp [Region.wanted, yielded]; done))); (case hi => (rw [vfn_size]; kernel_rfl)))
      | (go_at_call 158; with_reducible refine (V1.out _).mono ?_; rintro e w1 ⟨rfl, hb⟩; replace hB := hB.trans (hb.mono hB.size); replace p := p.below hb p.lt; replace q := q.below hb q.lt; replace r := r.below hb r.lt; clear hb)
      | (go_at_call 78; with_reducible refine (V2.out _).mono ?_; rintro e w1 ⟨rfl, hb⟩; replace hB := hB.trans (hb.mono hB.size); replace p := p.below hb p.lt; replace q := q.below hb q.lt; replace r := r.below hb r.lt; clear hb)
      | (go_at_call 81; refine (eachBack_any (backX g f) (fun _ => 0) _ _ _ (fun i hi wx hx => backC_any g f _ _ wx HF.out HG.out (p.below hx p.lt) (q.below hx q.lt) i hi)).mono ?_; rintro e w2 ⟨rfl, hb⟩; rw [(each_res _).1, (each_res _).2, ← HFE.out.1, ← HFE.out.2]; replace hB := hB.trans (hb.mono hB.size); replace r := r.below hb r.lt; clear hb)
      | (refine wpList_store_row rfl _ _ _ rfl _ rfl _ rfl _ _ r (by rw [vfn_size]; kernel_rfl) (by simp only [vfn_size]) (vfn_one _) ?_))
  refine bodyPost_ret (results_vec rfl _ _ _ _ _ _ _ rfl (r.row (vfn F)) Try.underlying31 rfl (by rw [vfn_size]; kernel_rfl)) rfl ?_; refine ⟨?_, Below.setRow hB (by omega) _⟩
  rfl
end Go.Proofs.Ytkmelddejdikgaa
