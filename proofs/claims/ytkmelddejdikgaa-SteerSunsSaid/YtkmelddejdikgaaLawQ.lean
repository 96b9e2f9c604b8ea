/-
  Matrices of nine numbers: rows, and what it is that one is valid. The product of a matrix and a vector: Apply, in the package and in its specification. Columns of matrices, the transposed matrix, and its product with a vector: Back. The matrix of a quaternion, in the package. Vectors turned by a quaternion, in the package and in the specification. What the statements on quaternions ask for first, and the equality of quaternions. A quaternion of four numbers as a row's argument: opened and shut.
-/
import Derived.Test.YtkmelddejdikgaaVecF
import Derived.Deep.MidRow
import Derived.Test.YtkmelddejdikgaaBase
import Derived.Test.YtkmelddejdikgaaQuatD
import Derived.Test.YtkmelddejdikgaaQEq
import Derived.Test.YtkmelddejdikgaaLawVec
import Derived.Test.YtkmelddejdikgaaFrameV
import Derived.Laws.IdiomArrays
import Derived.WalkKit
import Derived.ProofKit
import Derived.OpenShut
import Derived.ShutString
import Derived.ChangeOld
import Derived.Below
set_option linter.unusedSimpArgs false
set_option linter.unusedVariables false
namespace Go.Proofs.Ytkmelddejdikgaa
open Go.RowKit PM Dt
def mfn (g : Nat → Int) : Array Value := ((List.range 9).map fun i => Value.int .i64 (g i)).toArray
theorem mfn_size (g : Nat → Int) : (mfn g).size = 9 := by simp [mfn]
theorem mfn_one (g : Nat → Int) : (mfn g).all (·.oneCell') = true := by simp [mfn, Value.oneCell']
theorem mfn_get (g : Nat → Int) {i : Nat} (h : i < 9) : (mfn g)[i]? = some (.int .i64 (g i)) := by simp [mfn, List.getElem?_range h]
theorem mfn_congr {f g : Nat → Int} (h : ∀ i, i < 9 → f i = g i) : mfn f = mfn g := by
  apply Array.ext_getElem?
  intro j
  by_cases hj : j < 9
  · rw [mfn_get _ hj, mfn_get _ hj, h j hj]
  · rw [Array.getElem?_eq_none (by rw [mfn_size]; omega), Array.getElem?_eq_none (by rw [mfn_size]; omega)]
theorem mfn_set {f g : Nat → Int} {i : Nat} {v : Int} (h : i < 9) (hx : v = g i) (hg : ∀ j, j < 9 → j ≠ i → f j = g j) : (mfn f).setIfInBounds i (.int .i64 v) = mfn g := by
  subst hx
  apply Array.ext_getElem?
  intro j
  rw [Array.getElem?_setIfInBounds, mfn_size]
  by_cases hj : j < 9
  · by_cases e : i = j
    · subst e; rw [if_pos rfl, if_pos h, mfn_get _ h]
    · rw [if_neg e, mfn_get _ hj, mfn_get _ hj, hg j hj (Ne.symm e)]
  · by_cases e : i = j
    · omega
    · rw [if_neg e, Array.getElem?_eq_none (by rw [mfn_size]; omega), Array.getElem?_eq_none (by rw [mfn_size]; omega)]
theorem zero_mat : #[Value.int .i64 0, .int .i64 0, .int .i64 0, .int .i64 0, .int .i64 0, .int .i64 0, .int .i64 0, .int .i64 0, .int .i64 0] = mfn (fun _ => 0) := rfl
attribute [irreducible] mfn
def mrow (g : Nat → Int) (r : Nat) : Nat → Int := fun k => g (3 * r + k)
def okM (g : Nat → Int) : Bool := okV (mrow g 0) && (okV (mrow g 1) && okV (mrow g 2))
theorem okM_iff (g : Nat → Int) : okM g = true ↔ ∀ r, r < 3 → okV (mrow g r) = true := by
  unfold okM
  rw [Bool.and_eq_true, Bool.and_eq_true]
  constructor
  · rintro ⟨h0, h1, h2⟩ i hi
    have : i = 0 ∨ i = 1 ∨ i = 2 := by omega
    rcases this with rfl | rfl | rfl <;> assumption
  · intro h; exact ⟨h 0 (by omega), h 1 (by omega), h 2 (by omega)⟩
theorem mrow_cells (g : Nat → Int) (r : Nat) : [Value.int .i64 (g (3 * r)), .int .i64 (g (3 * r + 1)), .int .i64 (g (3 * r + 2))].toArray = vfn (mrow g r) := by unfold vfn mrow; rfl
theorem mrow_range {w : World} {b : Nat} {g : Nat → Int} {t : TypeId} (p : blk w b (mfn g) t) {r : Nat} (hr : r < 3) : w.rangeAt b (3 * r) [Value.int .i64 (g (3 * r)), .int .i64 (g (3 * r + 1)), .int .i64 (g (3 * r + 2))] := by
  intro j v hv
  have hj : j < 3 := by
    have := (List.getElem?_eq_some_iff.1 hv).1
    simpa using this
  have : j = 0 ∨ j = 1 ∨ j = 2 := by omega
  rcases this with rfl | rfl | rfl
  · simp at hv; subst hv; exact p.cellIs (mfn_get g (by omega))
  · simp at hv; subst hv; exact p.cellIs (mfn_get g (by omega))
  · simp at hv; subst hv; exact p.cellIs (mfn_get g (by omega))
theorem run_load_sub (w : World) (b r : Nat) (g : Nat → Int) {t : TypeId} (hr : r < 3) (p : blk w b (mfn g) t) : (loadVar 31 ⟨b, 3 * r, none⟩).run Try.prog w = .ok (.agg (vfn (mrow g r))) w := by
  rw [← mrow_cells]
  exact run_loadVar_mid w b (3 * r) 31 _ _ (mrow_range p hr) Try.underlying31 rfl (by kernel_rfl)
theorem wpList_load_sub {ops : Array Oper} {rest : List Oper} {o : Oper} {a : Act} {w : World} {Q : Exit → Act → World → Prop} (hw : Region.wanted o (yielded ops a.tmps) = true) (x : Operand) (ho : o.op = .load 31 x)
    (b r : Nat) (g : Nat → Int) {off : Nat} (hx : a.eval x = .pointer (some ⟨b, off, none⟩)) (hoff : off = 3 * r) (hr : r < 3) {t : TypeId} (p : blk w b (mfn g) t)
    (h : wpList Try.prog ops Q rest (a.put o.dst (.agg (vfn (mrow g r)))) w) : wpList Try.prog ops Q (o :: rest) a w :=
  wpList_step fun K hK => by
    rw [if_pos hw]
    subst hoff
    unfold Oper.wp execOp
    simp only [ho, hx, Instr.loadAt, Instr.sureAddr, Sem.run_bind, Sem.run_pure, Result.andThen_ok, run_load_sub w b r g hr p]
    exact hK _ _ h
theorem intsRow {w : World} {b r : Nat} {g : Nat → Int} {t : TypeId} (h : blk w b (mfn g) t) (hr : r < 3) : Ints w (.slice (some ⟨b, 3 * r, none⟩) 3 3) [mrow g r 0, mrow g r 1, mrow g r 2] :=
  Or.inr ⟨by simp, b, 3 * r, 3, rfl, h.lt, fun k hk => by
    have hk : k < 3 := hk
    refine (h.cellIs (mfn_get g (by omega))).trans ?_
    have : k = 0 ∨ k = 1 ∨ k = 2 := by omega
    rcases this with rfl | rfl | rfl <;> rfl⟩
set_option maxRecDepth 100000 in
set_option maxHeartbeats 1000000 in
theorem mvalid_any (g : Nat → Int) (w : World) : Calls Try.prog 158 #[.agg (mfn g)] w fun e w' => e = .returned (.bool (okM g)) ∧ Below w.heap.size w w' := by
  have W0 := Lib.hid (fun w => valid_any (mrow g 0) w)
  have W1 := Lib.hid (fun w => valid_any (mrow g 1) w)
  have W2 := Lib.hid (fun w => valid_any (mrow g 2) w)
  have p0 : blk (w.alloc (.cells (mfn g) 168)) w.heap.size (mfn g) 168 := blk.new _ _ _
  have hB0 : Below w.heap.size w (w.alloc (.cells (mfn g) 168)) := by go_grown
  unfold okM
  generalize okV (mrow g 0) = b0 at *
  generalize okV (mrow g 1) = b1 at *
  generalize okV (mrow g 2) = b2 at *
  cases b0 <;> cases b1 <;> cases b2
  all_goals
    go_enter Try.func158, Try.ntmps158
    go_upto_region 1 with (fail)
    have p := p0
    have hB := hB0
    generalize w.alloc (.cells (mfn g) 168) = w0 at *
    go_wp2_with (first
      | (refine wpList_load_sub ?hw _ rfl w.heap.size 0 g rfl rfl (by omega) p ?_; (case hw => (first | rfl | (simp [Region.wanted, yielded]; done))))
      | (refine wpList_load_sub ?hw _ rfl w.heap.size 1 g rfl rfl (by omega) p ?_; (case hw => (first | rfl | (simp [Region.wanted, yielded]; done))))
      | (refine wpList_load_sub ?hw _ rfl w.heap.size 2 g rfl rfl (by omega) p ?_; (case hw => (first | rfl | (simp [Region.wanted, yielded]; done))))
      | (go_at_call 78; with_reducible refine (W0.out _).mono ?_; rintro e w1 ⟨rfl, hb⟩; replace hB := hB.trans (hb.mono hB.size); replace p := p.below hb p.lt; clear hb)
      | (go_at_call 78; with_reducible refine (W1.out _).mono ?_; rintro e w1 ⟨rfl, hb⟩; replace hB := hB.trans (hb.mono hB.size); replace p := p.below hb p.lt; clear hb)
      | (go_at_call 78; with_reducible refine (W2.out _).mono ?_; rintro e w1 ⟨rfl, hb⟩; replace hB := hB.trans (hb.mono hB.size); replace p := p.below hb p.lt; clear hb))
    go_ret
    exact ⟨rfl, hB⟩
end Go.Proofs.Ytkmelddejdikgaa
namespace Go.Proofs.Ytkmelddejdikgaa
open Go.RowKit PM Dt
def applyX (g f : Nat → Int) (i : Nat) : Int := rnd (d3 (mrow g i) f)
theorem dotrow_any (g f : Nat → Int) (r : Nat) (hr : r < 3) (b c : Nat) (w : World) (hg : okM g = true) (hf : okV f = true) (p : blk w b (mfn g) 168) (q : blk w c (vfn f) 31) :
    Calls Try.prog 60 #[.slice (some ⟨b, 3 * r, none⟩) 3 3, .slice (some ⟨c, 0, none⟩) 3 3] w fun e w' => e = .returned (.tuple #[.int .i64 (applyX g f r), .int .i64 0]) ∧ Below w.heap.size w w' := by
  have hr' := (okM_iff g).1 hg r hr
  refine (dot_any [mrow g r 0, mrow g r 1, mrow g r 2] [f 0, f 1, f 2] _ _ w (intsRow p hr) (ints3 q) (list_I3 (okV_I hr')) (list_I3 (okV_I hf))).mono fun e w' h => ⟨h.1.trans ?_, h.2⟩
  rw [(d3_fit hr' hf).1, (d3_fit hr' hf).2]; rfl
set_option maxRecDepth 100000 in
set_option maxHeartbeats 1000000 in
theorem applyC0 (g f : Nat → Int) (b c : Nat) (w : World) (p : blk w b (mfn g) 168) (q : blk w c (vfn f) 31) (X : Int)
    (D : Hid (∀ w, blk w b (mfn g) 168 → blk w c (vfn f) 31 → Calls Try.prog 60 #[.slice (some ⟨b, 0, none⟩) 3 3, .slice (some ⟨c, 0, none⟩) 3 3] w fun e w' => e = .returned (.tuple #[.int .i64 X, .int .i64 0]) ∧ Below w.heap.size w w')) :
    Calls Try.prog 159 #[.int .i64 0, .pointer (some ⟨b, 0, none⟩), .pointer (some ⟨c, 0, none⟩)] w fun e w' => e = .returned (.tuple #[.int .i64 X, .int .i64 0]) ∧ Below w.heap.size w w' := by
  go_enter Try.func159, Try.ntmps159
  go_upto_region 1 with (fail)
  have hB : More w w := Below.refl _ _
  refine wp_region_Y 99 9 rfl (by kernel_rfl) ?_
  replace p := p.drew
  replace q := q.drew
  replace hB : More w w.drew := hB.drew
  generalize w.drew = wo at *
  refine wpY_takeB 0 (.int .i64 0) rfl rfl (by kernel_rfl) (fun w1 => by go_simp; exact ⟨rfl, Below.refl _ _⟩) ?_
  simp only [Act.put, sIT, sCZ, sCS]
  refine wpY_takeB 1 (.pointer (some ⟨b, 0, none⟩)) rfl rfl (by kernel_rfl) (fun w1 => by go_simp; exact ⟨rfl, Below.refl _ _⟩) ?_
  simp only [Act.put, sIT, sCZ, sCS]
  refine wpY_takeB 2 (.slice (some ⟨b, 0, none⟩) 3 3) rfl rfl (by kernel_rfl) (fun w1 => by go_simp; exact ⟨rfl, Below.refl _ _⟩) ?_
  simp only [Act.put, sIT, sCZ, sCS]
  refine wpY_takeB 3 (.slice (some ⟨c, 0, none⟩) 3 3) rfl rfl (by kernel_rfl) (fun w1 => by go_simp; exact ⟨rfl, Below.refl _ _⟩) ?_
  simp only [Act.put, sIT, sCZ, sCS]
  refine wpY_takeA 4 (.tuple #[.int .i64 X, .int .i64 0]) rfl rfl (by kernel_rfl) (by kernel_rfl) (fun w1 h1 => ?_) ?_
  · go_simp
    refine (D.out _ (p.below h1 p.lt) (q.below h1 q.lt)).mono ?_
    rintro e w2 ⟨rfl, h2⟩
    exact ⟨rfl, h2⟩
  simp only [Act.put, sIT, sCZ, sCS]
  refine wpY_takeB 5 (.int .i64 X) rfl rfl (by kernel_rfl) (fun w1 => by go_simp; exact ⟨rfl, Below.refl _ _⟩) ?_
  simp only [Act.put, sIT, sCZ, sCS]
  refine wpY_takeB 6 (.int .i64 0) rfl rfl (by kernel_rfl) (fun w1 => by go_simp; exact ⟨rfl, Below.refl _ _⟩) ?_
  simp only [Act.put, sIT, sCZ, sCS]
  refine wpY_takeB 7 (.int .i64 X) rfl rfl (by kernel_rfl) (fun w1 => by go_simp; exact ⟨rfl, Below.refl _ _⟩) ?_
  simp only [Act.put, sIT, sCZ, sCS]
  refine wpY_takeB 8 (.int .i64 0) rfl rfl (by kernel_rfl) (fun w1 => by go_simp; exact ⟨rfl, Below.refl _ _⟩) ?_
  simp only [Act.put, sIT, sCZ, sCS]
  refine wpY_end (by kernel_rfl) (fun w3 h3 => ?_)
  replace hB := More.trans hB h3
  go_wp2_with (fail)
  go_ret2
  exact ⟨rfl, hB⟩
set_option maxRecDepth 100000 in
set_option maxHeartbeats 1000000 in
theorem applyC1 (g f : Nat → Int) (b c : Nat) (w : World) (p : blk w b (mfn g) 168) (q : blk w c (vfn f) 31) (X : Int)
    (D : Hid (∀ w, blk w b (mfn g) 168 → blk w c (vfn f) 31 → Calls Try.prog 60 #[.slice (some ⟨b, 3, none⟩) 3 3, .slice (some ⟨c, 0, none⟩) 3 3] w fun e w' => e = .returned (.tuple #[.int .i64 X, .int .i64 0]) ∧ Below w.heap.size w w')) :
    Calls Try.prog 159 #[.int .i64 1, .pointer (some ⟨b, 0, none⟩), .pointer (some ⟨c, 0, none⟩)] w fun e w' => e = .returned (.tuple #[.int .i64 X, .int .i64 0]) ∧ Below w.heap.size w w' := by
  go_enter Try.func159, Try.ntmps159
  go_upto_region 1 with (fail)
  have hB : More w w := Below.refl _ _
  refine wp_region_Y 99 9 rfl (by kernel_rfl) ?_
  replace p := p.drew
  replace q := q.drew
  replace hB : More w w.drew := hB.drew
  generalize w.drew = wo at *
  refine wpY_takeB 0 (.int .i64 1) rfl rfl (by kernel_rfl) (fun w1 => by go_simp; exact ⟨rfl, Below.refl _ _⟩) ?_
  simp only [Act.put, sIT, sCZ, sCS]
  refine wpY_takeB 1 (.pointer (some ⟨b, 3, none⟩)) rfl rfl (by kernel_rfl) (fun w1 => by go_simp; exact ⟨rfl, Below.refl _ _⟩) ?_
  simp only [Act.put, sIT, sCZ, sCS]
  refine wpY_takeB 2 (.slice (some ⟨b, 3, none⟩) 3 3) rfl rfl (by kernel_rfl) (fun w1 => by go_simp; exact ⟨rfl, Below.refl _ _⟩) ?_
  simp only [Act.put, sIT, sCZ, sCS]
  refine wpY_takeB 3 (.slice (some ⟨c, 0, none⟩) 3 3) rfl rfl (by kernel_rfl) (fun w1 => by go_simp; exact ⟨rfl, Below.refl _ _⟩) ?_
  simp only [Act.put, sIT, sCZ, sCS]
  refine wpY_takeA 4 (.tuple #[.int .i64 X, .int .i64 0]) rfl rfl (by kernel_rfl) (by kernel_rfl) (fun w1 h1 => ?_) ?_
  · go_simp
    refine (D.out _ (p.below h1 p.lt) (q.below h1 q.lt)).mono ?_
    rintro e w2 ⟨rfl, h2⟩
    exact ⟨rfl, h2⟩
  simp only [Act.put, sIT, sCZ, sCS]
  refine wpY_takeB 5 (.int .i64 X) rfl rfl (by kernel_rfl) (fun w1 => by go_simp; exact ⟨rfl, Below.refl _ _⟩) ?_
  simp only [Act.put, sIT, sCZ, sCS]
  refine wpY_takeB 6 (.int .i64 0) rfl rfl (by kernel_rfl) (fun w1 => by go_simp; exact ⟨rfl, Below.refl _ _⟩) ?_
  simp only [Act.put, sIT, sCZ, sCS]
  refine wpY_takeB 7 (.int .i64 X) rfl rfl (by kernel_rfl) (fun w1 => by go_simp; exact ⟨rfl, Below.refl _ _⟩) ?_
  simp only [Act.put, sIT, sCZ, sCS]
  refine wpY_takeB 8 (.int .i64 0) rfl rfl (by kernel_rfl) (fun w1 => by go_simp; exact ⟨rfl, Below.refl _ _⟩) ?_
  simp only [Act.put, sIT, sCZ, sCS]
  refine wpY_end (by kernel_rfl) (fun w3 h3 => ?_)
  replace hB := More.trans hB h3
  go_wp2_with (fail)
  go_ret2
  exact ⟨rfl, hB⟩
set_option maxRecDepth 100000 in
set_option maxHeartbeats 1000000 in
theorem applyC2 (g f : Nat → Int) (b c : Nat) (w : World) (p : blk w b (mfn g) 168) (q : blk w c (vfn f) 31) (X : Int)
    (D : Hid (∀ w, blk w b (mfn g) 168 → blk w c (vfn f) 31 → Calls Try.prog 60 #[.slice (some ⟨b, 6, none⟩) 3 3, .slice (some ⟨c, 0, none⟩) 3 3] w fun e w' => e = .returned (.tuple #[.int .i64 X, .int .i64 0]) ∧ Below w.heap.size w w')) :
    Calls Try.prog 159 #[.int .i64 2, .pointer (some ⟨b, 0, none⟩), .pointer (some ⟨c, 0, none⟩)] w fun e w' => e = .returned (.tuple #[.int .i64 X, .int .i64 0]) ∧ Below w.heap.size w w' := by
  go_enter Try.func159, Try.ntmps159
  go_upto_region 1 with (fail)
  have hB : More w w := Below.refl _ _
  refine wp_region_Y 99 9 rfl (by kernel_rfl) ?_
  replace p := p.drew
  replace q := q.drew
  replace hB : More w w.drew := hB.drew
  generalize w.drew = wo at *
  refine wpY_takeB 0 (.int .i64 2) rfl rfl (by kernel_rfl) (fun w1 => by go_simp; exact ⟨rfl, Below.refl _ _⟩) ?_
  simp only [Act.put, sIT, sCZ, sCS]
  refine wpY_takeB 1 (.pointer (some ⟨b, 6, none⟩)) rfl rfl (by kernel_rfl) (fun w1 => by go_simp; exact ⟨rfl, Below.refl _ _⟩) ?_
  simp only [Act.put, sIT, sCZ, sCS]
  refine wpY_takeB 2 (.slice (some ⟨b, 6, none⟩) 3 3) rfl rfl (by kernel_rfl) (fun w1 => by go_simp; exact ⟨rfl, Below.refl _ _⟩) ?_
  simp only [Act.put, sIT, sCZ, sCS]
  refine wpY_takeB 3 (.slice (some ⟨c, 0, none⟩) 3 3) rfl rfl (by kernel_rfl) (fun w1 => by go_simp; exact ⟨rfl, Below.refl _ _⟩) ?_
  simp only [Act.put, sIT, sCZ, sCS]
  refine wpY_takeA 4 (.tuple #[.int .i64 X, .int .i64 0]) rfl rfl (by kernel_rfl) (by kernel_rfl) (fun w1 h1 => ?_) ?_
  · go_simp
    refine (D.out _ (p.below h1 p.lt) (q.below h1 q.lt)).mono ?_
    rintro e w2 ⟨rfl, h2⟩
    exact ⟨rfl, h2⟩
  simp only [Act.put, sIT, sCZ, sCS]
  refine wpY_takeB 5 (.int .i64 X) rfl rfl (by kernel_rfl) (fun w1 => by go_simp; exact ⟨rfl, Below.refl _ _⟩) ?_
  simp only [Act.put, sIT, sCZ, sCS]
  refine wpY_takeB 6 (.int .i64 0) rfl rfl (by kernel_rfl) (fun w1 => by go_simp; exact ⟨rfl, Below.refl _ _⟩) ?_
  simp only [Act.put, sIT, sCZ, sCS]
  refine wpY_takeB 7 (.int .i64 X) rfl rfl (by kernel_rfl) (fun w1 => by go_simp; exact ⟨rfl, Below.refl _ _⟩) ?_
  simp only [Act.put, sIT, sCZ, sCS]
  refine wpY_takeB 8 (.int .i64 0) rfl rfl (by kernel_rfl) (fun w1 => by go_simp; exact ⟨rfl, Below.refl _ _⟩) ?_
  simp only [Act.put, sIT, sCZ, sCS]
  refine wpY_end (by kernel_rfl) (fun w3 h3 => ?_)
  replace hB := More.trans hB h3
  go_wp2_with (fail)
  go_ret2
  exact ⟨rfl, hB⟩
theorem applyC_any (g f : Nat → Int) (b c : Nat) (w : World) (hg : okM g = true) (hf : okV f = true) (p : blk w b (mfn g) 168) (q : blk w c (vfn f) 31) (i : Nat) (hi : i < 3) :
    Calls Try.prog 159 #[.int .i64 i, .pointer (some ⟨b, 0, none⟩), .pointer (some ⟨c, 0, none⟩)] w fun e w' => e = .returned (.tuple #[.int .i64 (applyX g f i), .int .i64 0]) ∧ Below w.heap.size w w' := by
  have : i = 0 ∨ i = 1 ∨ i = 2 := by omega
  rcases this with rfl | rfl | rfl
  · exact applyC0 g f b c w p q _ (fun w p q => dotrow_any g f 0 (by omega) b c w hg hf p q)
  · exact applyC1 g f b c w p q _ (fun w p q => dotrow_any g f 1 (by omega) b c w hg hf p q)
  · exact applyC2 g f b c w p q _ (fun w p q => dotrow_any g f 2 (by omega) b c w hg hf p q)
set_option maxRecDepth 100000 in
set_option maxHeartbeats 2000000 in
theorem eachApply_any (x er : Nat → Int) (c1 c2 : Value) (w : World)
    (hf : Hid (∀ i : Nat, i < 3 → ∀ w1, Below w.heap.size w w1 → Calls Try.prog 159 #[.int .i64 i, c1, c2] w1 fun e w' => e = .returned (.tuple #[.int .i64 (x i), .int .i64 (er i)]) ∧ Below w1.heap.size w1 w')) :
    Calls Try.prog 81 #[.bool true, .func (.func 159) #[] #[c1, c2]] w fun e w' => e = .returned (.tuple #[.agg (vfn (eachF x er)), .int .i64 (eachE x er)]) ∧ Below w.heap.size w w' := by
  go_enter Try.func81, Try.ntmps81
  go_upto_region 2 with (fail)
  rw [zero_vec]
  have p : blk ((w.alloc (.cells (vfn fun _ => 0) 31)).alloc (.cells (vfn fun _ => 0) 31)) w.heap.size (vfn fun _ => 0) 31 := (blk.new _ _ _).alloc _
  have q : blk ((w.alloc (.cells (vfn fun _ => 0) 31)).alloc (.cells (vfn fun _ => 0) 31)) (w.heap.size + 1) (vfn fun _ => 0) 31 := blk.new' (by simp)
  have hB : Below w.heap.size w ((w.alloc (.cells (vfn fun _ => 0) 31)).alloc (.cells (vfn fun _ => 0) 31)) := by go_grown
  generalize (w.alloc (.cells (vfn fun _ => 0) 31)).alloc (.cells (vfn fun _ => 0) 31) = w0 at *
  go_wp2_with (fail)
  go_loopg [13] 3 (fun g iv wr => ∃ k : Nat, g + k = 3 ∧ iv = .int .i64 k ∧ Hid (∀ j, j < k → er j = 0 ∧ vb (x j) = true) ∧ blk wr w.heap.size (vfn fun _ => 0) 31 ∧ blk wr (w.heap.size + 1) (vfn (pre3 x k)) 31 ∧ Below w.heap.size w wr)
  case atStart => exact ⟨0, rfl, rfl, fun j hj => by omega, p, by rw [show vfn (pre3 x 0) = vfn (fun _ => 0) from vfn_congr fun i _ => by simp [pre3]]; exact q, hB⟩
  case round =>
    clear p q hB
    obtain ⟨k, hk, rfl, hall, p, q, hB⟩ := hrel
    by_cases hkn : k < 3
    · have hdk : decide ((k : Int) < 3) = true := decide_eq_true (by omega)
      have hdk' : decide (k < 3) = true := decide_eq_true (by omega)
      have hw3 : IntKind.i64.wrap ((k : Int) + 1) = ((k + 1 : Nat) : Int) := by rw [IntKind.wrap_i64]; omega
      have W0 := Lib.hid (fun w => within_any (x k) w)
      have HC := Lib.hid (hf.out k hkn)
      by_cases he : er k = 0
      · have de : (er k != 0) = false := by simp [he]
        have HE := Lib.hid he
        obtain ⟨b, hb⟩ : ∃ b, vb (x k) = b := ⟨_, rfl⟩
        rw [hb] at W0
        have HVB := Lib.hid hb
        clear hb he
        cases b
        · have HG := Lib.hid (show goodE x er = false from goodE_no hkn (by rintro ⟨_, h⟩; rw [HVB.out] at h; cases h))
          go_wp2_with (first
            | (go_at_call 159; refine (HC.out _ hB).mono ?_; rintro e w1 ⟨rfl, hb⟩; replace hB := hB.trans (hb.mono hB.size); replace p := p.below hb p.lt; replace q := q.below hb q.lt; clear hb)
            | (go_at_call 137; refine (W0.out _).mono ?_; rintro e w1 ⟨rfl, rfl⟩)
            | (rw [zero_vec]; refine wpList_store_row rfl _ _ _ rfl _ rfl _ rfl _ _ p (by rw [vfn_size]; kernel_rfl) (by simp only [vfn_size]) (vfn_one _) ?_))
          refine bodyPost_ret (results_vec rfl _ _ _ _ _ _ _ rfl (p.row (vfn (fun _ => 0))) Try.underlying31 rfl (by rw [vfn_size]; kernel_rfl)) rfl ?_; refine ⟨?_, Below.setRow hB (Nat.le_refl _) _⟩
          unfold eachF eachE; rw [HG.out]; rfl
        · go_upto_region 8 with (go_at_call 159; refine (HC.out _ hB).mono ?_; rintro e w1 ⟨rfl, hb⟩; replace hB := hB.trans (hb.mono hB.size); replace p := p.below hb p.lt; replace q := q.below hb q.lt; clear hb)
          have fz : w1.frozen? ⟨w.heap.size + 1, k, none⟩ = false := q.free _
          have cz : w1.cell? ⟨w.heap.size + 1, k, none⟩ = some (.int .i64 (pre3 x k k)) := q.cellIs (vfn_get _ hkn)
          go_wp2_with (go_at_call 137; refine (W0.out _).mono ?_; rintro e w1 ⟨rfl, rfl⟩)
          go_roundg (3 - (k + 1))
          case rel =>
            refine ⟨k + 1, by omega, rfl, fun j hj => ?_, p.setOther (by simp) _, q.set' (vfn_set hkn ?_ ?_), hB.setCell (by simp) _⟩
            · by_cases e : j = k
              · subst e; exact ⟨HE.out, HVB.out⟩
              · exact hall.out j (by omega)
            · simp [pre3]
            · intro j hj hne; simp only [pre3]; split <;> split <;> first | rfl | omega
          case measure => omega
      · have de : (er k != 0) = true := by simpa using he
        have HG := Lib.hid (show goodE x er = false from goodE_no hkn (by rintro ⟨h, _⟩; exact he h))
        clear he
        go_wp2_with (first
          | (go_at_call 159; refine (HC.out _ hB).mono ?_; rintro e w1 ⟨rfl, hb⟩; replace hB := hB.trans (hb.mono hB.size); replace p := p.below hb p.lt; replace q := q.below hb q.lt; clear hb)
          | (rw [zero_vec]; refine wpList_store_row rfl _ _ _ rfl _ rfl _ rfl _ _ p (by rw [vfn_size]; kernel_rfl) (by simp only [vfn_size]) (vfn_one _) ?_))
        refine bodyPost_ret (results_vec rfl _ _ _ _ _ _ _ rfl (p.row (vfn (fun _ => 0))) Try.underlying31 rfl (by rw [vfn_size]; kernel_rfl)) rfl ?_; refine ⟨?_, Below.setRow hB (Nat.le_refl _) _⟩
        unfold eachF eachE; rw [HG.out]; rfl
    · obtain rfl : k = 3 := by omega
      have HG := Lib.hid ((goodE_iff x er).2 hall.out)
      have e3 : vfn (pre3 x 3) = vfn x := vfn_congr fun i hi => by simp [pre3, hi]
      rw [e3] at q
      go_wp2_with (first | (refine wpList_load_rowG ?hw _ _ rfl _ rfl _ _ _ _ q Try.underlying31 rfl ?hi ?_; (case hw => (first | rfl | (simp [Region.wanted, yielded]; done))); (case hi => (rw [vfn_size]; kernel_rfl))) | (refine wpList_store_row rfl _ _ _ rfl _ rfl _ rfl _ _ p (by rw [vfn_size]; kernel_rfl) (by simp only [vfn_size]) (vfn_one _) ?_))
      refine bodyPost_ret (results_vec rfl _ _ _ _ _ _ _ rfl (p.row (vfn x)) Try.underlying31 rfl (by rw [vfn_size]; kernel_rfl)) rfl ?_; refine ⟨?_, Below.setRow hB (Nat.le_refl _) _⟩
      unfold eachF eachE; rw [HG.out]; rfl
def vapplyF (g f : Nat → Int) : Nat → Int := if okM g && okV f then resF (applyX g f) else fun _ => 0
def vapplyE (g f : Nat → Int) : Int := if okM g && okV f then resE (applyX g f) else 2
set_option maxRecDepth 100000 in
set_option maxHeartbeats 2000000 in
theorem vapply_any (g f : Nat → Int) (w : World) : Calls Try.prog 107 #[.agg (mfn g), .agg (vfn f)] w fun e w' => e = .returned (.tuple #[.agg (vfn (vapplyF g f)), .int .i64 (vapplyE g f)]) ∧ Below w.heap.size w w' := by
  have V1 := Lib.hid (fun w => mvalid_any g w)
  have V2 := Lib.hid (fun w => valid_any f w)
  have hk : ∃ F E, (okM g = true → okV f = true → F = resF (applyX g f) ∧ E = resE (applyX g f)) ∧ vapplyF g f = (if okM g && okV f then F else fun _ => 0) ∧ vapplyE g f = (if okM g && okV f then E else 2) := ⟨_, _, fun _ _ => ⟨rfl, rfl⟩, rfl, rfl⟩
  obtain ⟨F, E, hk, e1, e2⟩ := hk
  rw [e1, e2]
  clear e1 e2
  have HK := Lib.hid hk
  clear hk
  obtain ⟨bf, hf⟩ : ∃ b, okM g = b := ⟨_, rfl⟩
  obtain ⟨bg, hg⟩ : ∃ b, okV f = b := ⟨_, rfl⟩
  rw [hf] at V1 HK ⊢
  rw [hg] at V2 HK ⊢
  have HF := Lib.hid hf
  have HG := Lib.hid hg
  clear hf hg
  go_enter Try.func107, Try.ntmps107
  go_upto_region 1 with (fail)
  rw [zero_vec]
  have p : blk (((w.alloc (.cells (mfn g) 168)).alloc (.cells (vfn f) 31)).alloc (.cells (vfn fun _ => 0) 31)) w.heap.size (mfn g) 168 := ((blk.new _ _ _).alloc _).alloc _
  have q : blk (((w.alloc (.cells (mfn g) 168)).alloc (.cells (vfn f) 31)).alloc (.cells (vfn fun _ => 0) 31)) (w.heap.size + 1) (vfn f) 31 := (blk.new' (by simp)).alloc _
  have r : blk (((w.alloc (.cells (mfn g) 168)).alloc (.cells (vfn f) 31)).alloc (.cells (vfn fun _ => 0) 31)) (w.heap.size + 1 + 1) (vfn fun _ => 0) 31 := blk.new' (by simp)
  have hB : Below w.heap.size w (((w.alloc (.cells (mfn g) 168)).alloc (.cells (vfn f) 31)).alloc (.cells (vfn fun _ => 0) 31)) := by go_grown
  generalize ((w.alloc (.cells (mfn g) 168)).alloc (.cells (vfn f) 31)).alloc (.cells (vfn fun _ => 0) 31) = w0 at *
  cases bf
  · go_wp2_with (first
      | (refine wpList_load_rowG ?hw _ _ rfl _ rfl _ _ _ _ p Try.underlying168 rfl ?hi ?_; (case hw => (first | rfl | (simp [Region.wanted, yielded]; done))); (case hi => (rw [mfn_size]; kernel_rfl)))
      | (refine wpList_load_rowG ?hw _ _ rfl _ rfl _ _ _ _ q Try.underlying31 rfl ?hi ?_; (case hw => (first | rfl | (simp [Region.wanted, yielded]; done))); (case hi => (rw [vfn_size]; kernel_rfl)))
      | (go_at_call 158; with_reducible refine (V1.out _).mono ?_; rintro e w1 ⟨rfl, hb⟩; replace hB := hB.trans (hb.mono hB.size); replace p := p.below hb p.lt; replace q := q.below hb q.lt; replace r := r.below hb r.lt; clear hb)
      | (go_at_call 78; with_reducible refine (V2.out _).mono ?_; rintro e w1 ⟨rfl, hb⟩; replace hB := hB.trans (hb.mono hB.size); replace p := p.below hb p.lt; replace q := q.below hb q.lt; replace r := r.below hb r.lt; clear hb)
      | (go_at_call 81; refine (each_no _ _).mono ?_; rintro e w2 ⟨rfl, hb⟩; replace hB := hB.trans (hb.mono hB.size); replace r := r.below hb r.lt; clear hb)
      | (refine wpList_store_row rfl _ _ _ rfl _ rfl _ rfl _ _ r (by rw [vfn_size]; kernel_rfl) (by simp only [vfn_size]) (vfn_one _) ?_))
    refine bodyPost_ret (results_vec rfl _ _ _ _ _ _ _ rfl (r.row (vfn (fun _ => 0))) Try.underlying31 rfl (by rw [vfn_size]; kernel_rfl)) rfl ?_; refine ⟨?_, Below.setRow hB (by omega) _⟩
    rfl
  cases bg
  · go_wp2_with (first
      | (refine wpList_load_rowG ?hw _ _ rfl _ rfl _ _ _ _ p Try.underlying168 rfl ?hi ?_; (case hw => (first | rfl | (simp [Region.wanted, yielded]; done))); (case hi => (rw [mfn_size]; kernel_rfl)))
      | (refine wpList_load_rowG ?hw _ _ rfl _ rfl _ _ _ _ q Try.underlying31 rfl ?hi ?_; (case hw => (first | rfl | (simp [Region.wanted, yielded]; done))); (case hi => (rw [vfn_size]; kernel_rfl)))
      | (go_at_call 158; with_reducible refine (V1.out _).mono ?_; rintro e w1 ⟨rfl, hb⟩; replace hB := hB.trans (hb.mono hB.size); replace p := p.below hb p.lt; replace q := q.below hb q.lt; replace r := r.below hb r.lt; clear hb)
      | (go_at_call 78; with_reducible refine (V2.out _).mono ?_; rintro e w1 ⟨rfl, hb⟩; replace hB := hB.trans (hb.mono hB.size); replace p := p.below hb p.lt; replace q := q.below hb q.lt; replace r := r.below hb r.lt; clear hb)
      | (go_at_call 81; refine (each_no _ _).mono ?_; rintro e w2 ⟨rfl, hb⟩; replace hB := hB.trans (hb.mono hB.size); replace r := r.below hb r.lt; clear hb)
      | (refine wpList_store_row rfl _ _ _ rfl _ rfl _ rfl _ _ r (by rw [vfn_size]; kernel_rfl) (by simp only [vfn_size]) (vfn_one _) ?_))
    refine bodyPost_ret (results_vec rfl _ _ _ _ _ _ _ rfl (r.row (vfn (fun _ => 0))) Try.underlying31 rfl (by rw [vfn_size]; kernel_rfl)) rfl ?_; refine ⟨?_, Below.setRow hB (by omega) _⟩
    rfl
  obtain ⟨hF, hE⟩ := HK.out rfl rfl
  have HFE := Lib.hid (And.intro hF hE)
  clear HK hF hE
  go_wp2_with (first
      | (refine wpList_load_rowG ?hw _ _ rfl _ rfl _ _ _ _ p Try.underlying168 rfl ?hi ?_; (case hw => (first | rfl | (simp [Region.wanted, yielded]; done))); (case hi => (rw [mfn_size]; kernel_rfl)))
      | (refine wpList_load_rowG ?hw _ _ rfl _ rfl _ _ _ _ q Try.underlying31 rfl ?hi ?_; (case hw => (first | rfl | (simp [Region.wanted, yielded]; done))); (case hi => (rw [vfn_size]; kernel_rfl)))
      | (go_at_call 158; with_reducible refine (V1.out _).mono ?_; rintro e w1 ⟨rfl, hb⟩; replace hB := hB.trans (hb.mono hB.size); replace p := p.below hb p.lt; replace q := q.below hb q.lt; replace r := r.below hb r.lt; clear hb)
      | (go_at_call 78; with_reducible refine (V2.out _).mono ?_; rintro e w1 ⟨rfl, hb⟩; replace hB := hB.trans (hb.mono hB.size); replace p := p.below hb p.lt; replace q := q.below hb q.lt; replace r := r.below hb r.lt; clear hb)
      | (go_at_call 81; refine (eachApply_any (applyX g f) (fun _ => 0) _ _ _ (fun i hi wx hx => applyC_any g f _ _ wx HF.out HG.out (p.below hx p.lt) (q.below hx q.lt) i hi)).mono ?_; rintro e w2 ⟨rfl, hb⟩; rw [(each_res _).1, (each_res _).2, ← HFE.out.1, ← HFE.out.2]; replace hB := hB.trans (hb.mono hB.size); replace r := r.below hb r.lt; clear hb)
      | (refine wpList_store_row rfl _ _ _ rfl _ rfl _ rfl _ _ r (by rw [vfn_size]; kernel_rfl) (by simp only [vfn_size]) (vfn_one _) ?_))
  refine bodyPost_ret (results_vec rfl _ _ _ _ _ _ _ rfl (r.row (vfn F)) Try.underlying31 rfl (by rw [vfn_size]; kernel_rfl)) rfl ?_; refine ⟨?_, Below.setRow hB (by omega) _⟩
  rfl
end Go.Proofs.Ytkmelddejdikgaa
namespace Go.Proofs.Ytkmelddejdikgaa
open Go.RowKit PM Dt
def mcol (g : Nat → Int) (k : Nat) : Nat → Int := fun r => g (3 * r + k)
theorem okM_cell {g : Nat → Int} (h : okM g = true) {i : Nat} (hi : i < 9) : vb (g i) = true := by
  have h1 := (okV_iff _).1 ((okM_iff g).1 h (i / 3) (by omega)) (i % 3) (by omega)
  unfold mrow at h1
  rw [show 3 * (i / 3) + i % 3 = i by omega] at h1
  exact h1
theorem okV_col {g : Nat → Int} (h : okM g = true) {k : Nat} (hk : k < 3) : okV (mcol g k) = true := (okV_iff _).2 fun r hr => okM_cell h (by omega)
set_option maxRecDepth 100000 in
set_option maxHeartbeats 1000000 in
theorem colC0 (g : Nat → Int) (w : World) : Calls Try.prog 173 #[.agg (mfn g), .int .i64 0] w fun e w' => ∃ nb, e = .returned (.slice (some ⟨nb, 0, none⟩) 3 3) ∧ blk w' nb (vfn (mcol g 0)) 2 ∧ Below w.heap.size w w' := by
  go_enter Try.func173, Try.ntmps173
  go_upto_region 1 with (fail)
  have p : blk (w.alloc (.cells (mfn g) 168)) w.heap.size (mfn g) 168 := blk.new _ _ _
  have hB : Below w.heap.size w (w.alloc (.cells (mfn g) 168)) := by go_grown
  generalize w.alloc (.cells (mfn g) 168) = w0 at *
  have HX : Hid (#[Value.int .i64 (g 0), .int .i64 (g 3), .int .i64 (g 6)] = vfn (mcol g 0)) := by show _ = _; unfold vfn; rfl
  refine wp_region_X 12 (by kernel_rfl) (by kernel_rfl) ?_
  replace p := p.drew
  replace hB : Below w.heap.size w w0.drew := hB.drew
  generalize w0.drew = wo at *
  refine wpX_take 0 (.int .i64 0) rfl rfl (by kernel_rfl) (fun w1 h1 => by go_simp; exact ⟨rfl, Below.refl _ _⟩) ?_
  simp only [Act.put, sIT, sCZ, sCS]
  refine wpX_take 1 (.pointer (some ⟨w.heap.size, 0, none⟩)) rfl rfl (by kernel_rfl) (fun w1 h1 => by go_simp; exact ⟨rfl, Below.refl _ _⟩) ?_
  simp only [Act.put, sIT, sCZ, sCS]
  refine wpX_take 2 (.pointer (some ⟨w.heap.size, 0, none⟩)) rfl rfl (by kernel_rfl) (fun w1 h1 => by go_simp; exact ⟨rfl, Below.refl _ _⟩) ?_
  simp only [Act.put, sIT, sCZ, sCS]
  refine wpX_take 3 (.int .i64 (g 0)) rfl rfl (by kernel_rfl) (fun w1 h1 => by have hc : w1.cell? ⟨w.heap.size, 0, none⟩ = some (.int .i64 (g 0)) := (p.below h1 p.lt).cellIs (mfn_get _ (by omega)); go_simp; exact ⟨rfl, Below.refl _ _⟩) ?_
  simp only [Act.put, sIT, sCZ, sCS]
  refine wpX_take 4 (.int .i64 0) rfl rfl (by kernel_rfl) (fun w1 h1 => by go_simp; exact ⟨rfl, Below.refl _ _⟩) ?_
  simp only [Act.put, sIT, sCZ, sCS]
  refine wpX_take 5 (.pointer (some ⟨w.heap.size, 3, none⟩)) rfl rfl (by kernel_rfl) (fun w1 h1 => by go_simp; exact ⟨rfl, Below.refl _ _⟩) ?_
  simp only [Act.put, sIT, sCZ, sCS]
  refine wpX_take 6 (.pointer (some ⟨w.heap.size, 3, none⟩)) rfl rfl (by kernel_rfl) (fun w1 h1 => by go_simp; exact ⟨rfl, Below.refl _ _⟩) ?_
  simp only [Act.put, sIT, sCZ, sCS]
  refine wpX_take 7 (.int .i64 (g 3)) rfl rfl (by kernel_rfl) (fun w1 h1 => by have hc : w1.cell? ⟨w.heap.size, 3, none⟩ = some (.int .i64 (g 3)) := (p.below h1 p.lt).cellIs (mfn_get _ (by omega)); go_simp; exact ⟨rfl, Below.refl _ _⟩) ?_
  simp only [Act.put, sIT, sCZ, sCS]
  refine wpX_take 8 (.int .i64 0) rfl rfl (by kernel_rfl) (fun w1 h1 => by go_simp; exact ⟨rfl, Below.refl _ _⟩) ?_
  simp only [Act.put, sIT, sCZ, sCS]
  refine wpX_take 9 (.pointer (some ⟨w.heap.size, 6, none⟩)) rfl rfl (by kernel_rfl) (fun w1 h1 => by go_simp; exact ⟨rfl, Below.refl _ _⟩) ?_
  simp only [Act.put, sIT, sCZ, sCS]
  refine wpX_take 10 (.pointer (some ⟨w.heap.size, 6, none⟩)) rfl rfl (by kernel_rfl) (fun w1 h1 => by go_simp; exact ⟨rfl, Below.refl _ _⟩) ?_
  simp only [Act.put, sIT, sCZ, sCS]
  refine wpX_take 11 (.int .i64 (g 6)) rfl rfl (by kernel_rfl) (fun w1 h1 => by have hc : w1.cell? ⟨w.heap.size, 6, none⟩ = some (.int .i64 (g 6)) := (p.below h1 p.lt).cellIs (mfn_get _ (by omega)); go_simp; exact ⟨rfl, Below.refl _ _⟩) ?_
  simp only [Act.put, sIT, sCZ, sCS]
  refine wpX_tail (by kernel_rfl) (fun wt ht => ?_)
  simp only [List.drop_succ_cons, List.drop_zero]
  replace hB := hB.trans (ht.mono hB.size)
  go_wp2_with (fail)
  go_ret
  exact ⟨_, rfl, by rw [← HX.out]; exact blk.new _ _ _, hB.alloc hB.size _⟩
set_option maxRecDepth 100000 in
set_option maxHeartbeats 1000000 in
theorem colC1 (g : Nat → Int) (w : World) : Calls Try.prog 173 #[.agg (mfn g), .int .i64 1] w fun e w' => ∃ nb, e = .returned (.slice (some ⟨nb, 0, none⟩) 3 3) ∧ blk w' nb (vfn (mcol g 1)) 2 ∧ Below w.heap.size w w' := by
  go_enter Try.func173, Try.ntmps173
  go_upto_region 1 with (fail)
  have p : blk (w.alloc (.cells (mfn g) 168)) w.heap.size (mfn g) 168 := blk.new _ _ _
  have hB : Below w.heap.size w (w.alloc (.cells (mfn g) 168)) := by go_grown
  generalize w.alloc (.cells (mfn g) 168) = w0 at *
  have HX : Hid (#[Value.int .i64 (g 1), .int .i64 (g 4), .int .i64 (g 7)] = vfn (mcol g 1)) := by show _ = _; unfold vfn; rfl
  refine wp_region_X 12 (by kernel_rfl) (by kernel_rfl) ?_
  replace p := p.drew
  replace hB : Below w.heap.size w w0.drew := hB.drew
  generalize w0.drew = wo at *
  refine wpX_take 0 (.int .i64 1) rfl rfl (by kernel_rfl) (fun w1 h1 => by go_simp; exact ⟨rfl, Below.refl _ _⟩) ?_
  simp only [Act.put, sIT, sCZ, sCS]
  refine wpX_take 1 (.pointer (some ⟨w.heap.size, 0, none⟩)) rfl rfl (by kernel_rfl) (fun w1 h1 => by go_simp; exact ⟨rfl, Below.refl _ _⟩) ?_
  simp only [Act.put, sIT, sCZ, sCS]
  refine wpX_take 2 (.pointer (some ⟨w.heap.size, 1, none⟩)) rfl rfl (by kernel_rfl) (fun w1 h1 => by go_simp; exact ⟨rfl, Below.refl _ _⟩) ?_
  simp only [Act.put, sIT, sCZ, sCS]
  refine wpX_take 3 (.int .i64 (g 1)) rfl rfl (by kernel_rfl) (fun w1 h1 => by have hc : w1.cell? ⟨w.heap.size, 1, none⟩ = some (.int .i64 (g 1)) := (p.below h1 p.lt).cellIs (mfn_get _ (by omega)); go_simp; exact ⟨rfl, Below.refl _ _⟩) ?_
  simp only [Act.put, sIT, sCZ, sCS]
  refine wpX_take 4 (.int .i64 1) rfl rfl (by kernel_rfl) (fun w1 h1 => by go_simp; exact ⟨rfl, Below.refl _ _⟩) ?_
  simp only [Act.put, sIT, sCZ, sCS]
  refine wpX_take 5 (.pointer (some ⟨w.heap.size, 3, none⟩)) rfl rfl (by kernel_rfl) (fun w1 h1 => by go_simp; exact ⟨rfl, Below.refl _ _⟩) ?_
  simp only [Act.put, sIT, sCZ, sCS]
  refine wpX_take 6 (.pointer (some ⟨w.heap.size, 4, none⟩)) rfl rfl (by kernel_rfl) (fun w1 h1 => by go_simp; exact ⟨rfl, Below.refl _ _⟩) ?_
  simp only [Act.put, sIT, sCZ, sCS]
  refine wpX_take 7 (.int .i64 (g 4)) rfl rfl (by kernel_rfl) (fun w1 h1 => by have hc : w1.cell? ⟨w.heap.size, 4, none⟩ = some (.int .i64 (g 4)) := (p.below h1 p.lt).cellIs (mfn_get _ (by omega)); go_simp; exact ⟨rfl, Below.refl _ _⟩) ?_
  simp only [Act.put, sIT, sCZ, sCS]
  refine wpX_take 8 (.int .i64 1) rfl rfl (by kernel_rfl) (fun w1 h1 => by go_simp; exact ⟨rfl, Below.refl _ _⟩) ?_
  simp only [Act.put, sIT, sCZ, sCS]
  refine wpX_take 9 (.pointer (some ⟨w.heap.size, 6, none⟩)) rfl rfl (by kernel_rfl) (fun w1 h1 => by go_simp; exact ⟨rfl, Below.refl _ _⟩) ?_
  simp only [Act.put, sIT, sCZ, sCS]
  refine wpX_take 10 (.pointer (some ⟨w.heap.size, 7, none⟩)) rfl rfl (by kernel_rfl) (fun w1 h1 => by go_simp; exact ⟨rfl, Below.refl _ _⟩) ?_
  simp only [Act.put, sIT, sCZ, sCS]
  refine wpX_take 11 (.int .i64 (g 7)) rfl rfl (by kernel_rfl) (fun w1 h1 => by have hc : w1.cell? ⟨w.heap.size, 7, none⟩ = some (.int .i64 (g 7)) := (p.below h1 p.lt).cellIs (mfn_get _ (by omega)); go_simp; exact ⟨rfl, Below.refl _ _⟩) ?_
  simp only [Act.put, sIT, sCZ, sCS]
  refine wpX_tail (by kernel_rfl) (fun wt ht => ?_)
  simp only [List.drop_succ_cons, List.drop_zero]
  replace hB := hB.trans (ht.mono hB.size)
  go_wp2_with (fail)
  go_ret
  exact ⟨_, rfl, by rw [← HX.out]; exact blk.new _ _ _, hB.alloc hB.size _⟩
set_option maxRecDepth 100000 in
set_option maxHeartbeats 1000000 in
theorem colC2 (g : Nat → Int) (w : World) : Calls Try.prog 173 #[.agg (mfn g), .int .i64 2] w fun e w' => ∃ nb, e = .returned (.slice (some ⟨nb, 0, none⟩) 3 3) ∧ blk w' nb (vfn (mcol g 2)) 2 ∧ Below w.heap.size w w' := by
  go_enter Try.func173, Try.ntmps173
  go_upto_region 1 with (fail)
  have p : blk (w.alloc (.cells (mfn g) 168)) w.heap.size (mfn g) 168 := blk.new _ _ _
  have hB : Below w.heap.size w (w.alloc (.cells (mfn g) 168)) := by go_grown
  generalize w.alloc (.cells (mfn g) 168) = w0 at *
  have HX : Hid (#[Value.int .i64 (g 2), .int .i64 (g 5), .int .i64 (g 8)] = vfn (mcol g 2)) := by show _ = _; unfold vfn; rfl
  refine wp_region_X 12 (by kernel_rfl) (by kernel_rfl) ?_
  replace p := p.drew
  replace hB : Below w.heap.size w w0.drew := hB.drew
  generalize w0.drew = wo at *
  refine wpX_take 0 (.int .i64 2) rfl rfl (by kernel_rfl) (fun w1 h1 => by go_simp; exact ⟨rfl, Below.refl _ _⟩) ?_
  simp only [Act.put, sIT, sCZ, sCS]
  refine wpX_take 1 (.pointer (some ⟨w.heap.size, 0, none⟩)) rfl rfl (by kernel_rfl) (fun w1 h1 => by go_simp; exact ⟨rfl, Below.refl _ _⟩) ?_
  simp only [Act.put, sIT, sCZ, sCS]
  refine wpX_take 2 (.pointer (some ⟨w.heap.size, 2, none⟩)) rfl rfl (by kernel_rfl) (fun w1 h1 => by go_simp; exact ⟨rfl, Below.refl _ _⟩) ?_
  simp only [Act.put, sIT, sCZ, sCS]
  refine wpX_take 3 (.int .i64 (g 2)) rfl rfl (by kernel_rfl) (fun w1 h1 => by have hc : w1.cell? ⟨w.heap.size, 2, none⟩ = some (.int .i64 (g 2)) := (p.below h1 p.lt).cellIs (mfn_get _ (by omega)); go_simp; exact ⟨rfl, Below.refl _ _⟩) ?_
  simp only [Act.put, sIT, sCZ, sCS]
  refine wpX_take 4 (.int .i64 2) rfl rfl (by kernel_rfl) (fun w1 h1 => by go_simp; exact ⟨rfl, Below.refl _ _⟩) ?_
  simp only [Act.put, sIT, sCZ, sCS]
  refine wpX_take 5 (.pointer (some ⟨w.heap.size, 3, none⟩)) rfl rfl (by kernel_rfl) (fun w1 h1 => by go_simp; exact ⟨rfl, Below.refl _ _⟩) ?_
  simp only [Act.put, sIT, sCZ, sCS]
  refine wpX_take 6 (.pointer (some ⟨w.heap.size, 5, none⟩)) rfl rfl (by kernel_rfl) (fun w1 h1 => by go_simp; exact ⟨rfl, Below.refl _ _⟩) ?_
  simp only [Act.put, sIT, sCZ, sCS]
  refine wpX_take 7 (.int .i64 (g 5)) rfl rfl (by kernel_rfl) (fun w1 h1 => by have hc : w1.cell? ⟨w.heap.size, 5, none⟩ = some (.int .i64 (g 5)) := (p.below h1 p.lt).cellIs (mfn_get _ (by omega)); go_simp; exact ⟨rfl, Below.refl _ _⟩) ?_
  simp only [Act.put, sIT, sCZ, sCS]
  refine wpX_take 8 (.int .i64 2) rfl rfl (by kernel_rfl) (fun w1 h1 => by go_simp; exact ⟨rfl, Below.refl _ _⟩) ?_
  simp only [Act.put, sIT, sCZ, sCS]
  refine wpX_take 9 (.pointer (some ⟨w.heap.size, 6, none⟩)) rfl rfl (by kernel_rfl) (fun w1 h1 => by go_simp; exact ⟨rfl, Below.refl _ _⟩) ?_
  simp only [Act.put, sIT, sCZ, sCS]
  refine wpX_take 10 (.pointer (some ⟨w.heap.size, 8, none⟩)) rfl rfl (by kernel_rfl) (fun w1 h1 => by go_simp; exact ⟨rfl, Below.refl _ _⟩) ?_
  simp only [Act.put, sIT, sCZ, sCS]
  refine wpX_take 11 (.int .i64 (g 8)) rfl rfl (by kernel_rfl) (fun w1 h1 => by have hc : w1.cell? ⟨w.heap.size, 8, none⟩ = some (.int .i64 (g 8)) := (p.below h1 p.lt).cellIs (mfn_get _ (by omega)); go_simp; exact ⟨rfl, Below.refl _ _⟩) ?_
  simp only [Act.put, sIT, sCZ, sCS]
  refine wpX_tail (by kernel_rfl) (fun wt ht => ?_)
  simp only [List.drop_succ_cons, List.drop_zero]
  replace hB := hB.trans (ht.mono hB.size)
  go_wp2_with (fail)
  go_ret
  exact ⟨_, rfl, by rw [← HX.out]; exact blk.new _ _ _, hB.alloc hB.size _⟩
theorem col_any (g : Nat → Int) (k : Nat) (w : World) (hk : k < 3) : Calls Try.prog 173 #[.agg (mfn g), .int .i64 k] w fun e w' => ∃ nb, e = .returned (.slice (some ⟨nb, 0, none⟩) 3 3) ∧ blk w' nb (vfn (mcol g k)) 2 ∧ Below w.heap.size w w' := by
  have : k = 0 ∨ k = 1 ∨ k = 2 := by omega
  rcases this with rfl | rfl | rfl
  · exact colC0 g w
  · exact colC1 g w
  · exact colC2 g w
def backX (g f : Nat → Int) (i : Nat) : Int := rnd (d3 (mcol g i) f)
theorem dotcol_any (x f : Nat → Int) (b c : Nat) (t : TypeId) (w : World) (hx : okV x = true) (hf : okV f = true) (p : blk w b (vfn x) t) (q : blk w c (vfn f) 31) :
    Calls Try.prog 60 #[.slice (some ⟨b, 0, none⟩) 3 3, .slice (some ⟨c, 0, none⟩) 3 3] w fun e w' => e = .returned (.tuple #[.int .i64 (rnd (d3 x f)), .int .i64 0]) ∧ Below w.heap.size w w' :=
  (dot_any [x 0, x 1, x 2] [f 0, f 1, f 2] _ _ w (ints3 p) (ints3 q) (list_I3 (okV_I hx)) (list_I3 (okV_I hf))).mono fun e w' h => ⟨h.1.trans (by rw [(d3_fit hx hf).1, (d3_fit hx hf).2]), h.2⟩
set_option maxRecDepth 100000 in
set_option maxHeartbeats 1000000 in
theorem backC_any (g f : Nat → Int) (b c : Nat) (w : World) (hg : okM g = true) (hf : okV f = true) (p : blk w b (mfn g) 168) (q : blk w c (vfn f) 31) (i : Nat) (hi : i < 3) :
    Calls Try.prog 172 #[.int .i64 i, .pointer (some ⟨b, 0, none⟩), .pointer (some ⟨c, 0, none⟩)] w fun e w' => e = .returned (.tuple #[.int .i64 (backX g f i), .int .i64 0]) ∧ Below w.heap.size w w' := by
  have D := Lib.hid (fun b c t w p q => dotcol_any (mcol g i) f b c t w (okV_col hg hi) hf p q)
  have CL := Lib.hid (fun w => col_any g i w hi)
  unfold backX
  generalize rnd (d3 (mcol g i) f) = X at *
  clear hg hf hi
  go_enter Try.func172, Try.ntmps172
  go_upto_region 1 with (fail)
  have hB : More w w := Below.refl _ _
  refine wp_region_Y 99 9 rfl (by kernel_rfl) ?_
  replace p := p.drew
  replace q := q.drew
  replace hB : More w w.drew := hB.drew
  generalize w.drew = wo at *
  refine wpY_takeA 0 (.agg (mfn g)) rfl rfl (by kernel_rfl) (by kernel_rfl) (fun w1 h1 => detR_row _ _ rfl _ rfl _ _ _ (p.below h1 p.lt) Try.underlying168 rfl (by rw [mfn_size]; kernel_rfl) rfl) ?_
  simp only [Act.put, sIT, sCZ, sCS]
  refine wpY_takeB 1 (.int .i64 i) rfl rfl (by kernel_rfl) (fun w1 => by go_simp; exact ⟨rfl, Below.refl _ _⟩) ?_
  simp only [Act.put, sIT, sCZ, sCS]
  refine wpY_takeB 3 (.slice (some ⟨c, 0, none⟩) 3 3) rfl rfl (by kernel_rfl) (fun w1 => by go_simp; exact ⟨rfl, Below.refl _ _⟩) ?_
  simp only [Act.put, sIT, sCZ, sCS]
  refine wpY_more1 2 rfl rfl (by kernel_rfl) (fun w1 h1 K hK => ?_)
  go_simp
  refine (CL.out _).mono ?_
  rintro e w2 ⟨nb, rfl, pc, hm⟩
  refine hK _ _ hm ?_
  replace hB := More.trans hB (More.trans h1 hm)
  replace q := (q.below h1 q.lt).below hm (by have := q.lt; have := h1.size; omega)
  clear hK K h1 hm p
  try simp only [Act.put, sIT, sCZ, sCS]
  refine wpY_takeA 4 (.tuple #[.int .i64 X, .int .i64 0]) rfl rfl (by kernel_rfl) (by kernel_rfl) (fun w1 h1 => ?_) ?_
  · go_simp
    refine (D.out _ _ _ _ (pc.below h1 pc.lt) (q.below h1 q.lt)).mono ?_
    rintro e w3 ⟨rfl, h2⟩
    exact ⟨rfl, h2⟩
  simp only [Act.put, sIT, sCZ, sCS]
  refine wpY_takeB 5 (.int .i64 X) rfl rfl (by kernel_rfl) (fun w1 => by go_simp; exact ⟨rfl, Below.refl _ _⟩) ?_
  simp only [Act.put, sIT, sCZ, sCS]
  refine wpY_takeB 6 (.int .i64 0) rfl rfl (by kernel_rfl) (fun w1 => by go_simp; exact ⟨rfl, Below.refl _ _⟩) ?_
  simp only [Act.put, sIT, sCZ, sCS]
  refine wpY_takeB 7 (.int .i64 X) rfl rfl (by kernel_rfl) (fun w1 => by go_simp; exact ⟨rfl, Below.refl _ _⟩) ?_
  simp only [Act.put, sIT, sCZ, sCS]
  refine wpY_takeB 8 (.int .i64 0) rfl rfl (by kernel_rfl) (fun w1 => by go_simp; exact ⟨rfl, Below.refl _ _⟩) ?_
  simp only [Act.put, sIT, sCZ, sCS]
  refine wpY_end (by kernel_rfl) (fun w3 h3 => ?_)
  replace hB := More.trans hB h3
  go_wp2_with (fail)
  go_ret2
  exact ⟨rfl, hB⟩
set_option maxRecDepth 100000 in
set_option maxHeartbeats 2000000 in
theorem eachBack_any (x er : Nat → Int) (c1 c2 : Value) (w : World)
    (hf : Hid (∀ i : Nat, i < 3 → ∀ w1, Below w.heap.size w w1 → Calls Try.prog 172 #[.int .i64 i, c1, c2] w1 fun e w' => e = .returned (.tuple #[.int .i64 (x i), .int .i64 (er i)]) ∧ Below w1.heap.size w1 w')) :
    Calls Try.prog 81 #[.bool true, .func (.func 172) #[] #[c1, c2]] w fun e w' => e = .returned (.tuple #[.agg (vfn (eachF x er)), .int .i64 (eachE x er)]) ∧ Below w.heap.size w w' := by
  go_enter Try.func81, Try.ntmps81
  go_upto_region 2 with (fail)
  rw [zero_vec]
  have p : blk ((w.alloc (.cells (vfn fun _ => 0) 31)).alloc (.cells (vfn fun _ => 0) 31)) w.heap.size (vfn fun _ => 0) 31 := (blk.new _ _ _).alloc _
  have q : blk ((w.alloc (.cells (vfn fun _ => 0) 31)).alloc (.cells (vfn fun _ => 0) 31)) (w.heap.size + 1) (vfn fun _ => 0) 31 := blk.new' (by simp)
  have hB : Below w.heap.size w ((w.alloc (.cells (vfn fun _ => 0) 31)).alloc (.cells (vfn fun _ => 0) 31)) := by go_grown
  generalize (w.alloc (.cells (vfn fun _ => 0) 31)).alloc (.cells (vfn fun _ => 0) 31) = w0 at *
  go_wp2_with (fail)
  go_loopg [13] 3 (fun g iv wr => ∃ k : Nat, g + k = 3 ∧ iv = .int .i64 k ∧ Hid (∀ j, j < k → er j = 0 ∧ vb (x j) = true) ∧ blk wr w.heap.size (vfn fun _ => 0) 31 ∧ blk wr (w.heap.size + 1) (vfn (pre3 x k)) 31 ∧ Below w.heap.size w wr)
  case atStart => exact ⟨0, rfl, rfl, fun j hj => by omega, p, by rw [show vfn (pre3 x 0) = vfn (fun _ => 0) from vfn_congr fun i _ => by simp [pre3]]; exact q, hB⟩
  case round =>
    clear p q hB
    obtain ⟨k, hk, rfl, hall, p, q, hB⟩ := hrel
    by_cases hkn : k < 3
    · have hdk : decide ((k : Int) < 3) = true := decide_eq_true (by omega)
      have hdk' : decide (k < 3) = true := decide_eq_true (by omega)
      have hw3 : IntKind.i64.wrap ((k : Int) + 1) = ((k + 1 : Nat) : Int) := by rw [IntKind.wrap_i64]; omega
      have W0 := Lib.hid (fun w => within_any (x k) w)
      have HC := Lib.hid (hf.out k hkn)
      by_cases he : er k = 0
      · have de : (er k != 0) = false := by simp [he]
        have HE := Lib.hid he
        obtain ⟨b, hb⟩ : ∃ b, vb (x k) = b := ⟨_, rfl⟩
        rw [hb] at W0
        have HVB := Lib.hid hb
        clear hb he
        cases b
        · have HG := Lib.hid (show goodE x er = false from goodE_no hkn (by rintro ⟨_, h⟩; rw [HVB.out] at h; cases h))
          go_wp2_with (first
            | (go_at_call 172; refine (HC.out _ hB).mono ?_; rintro e w1 ⟨rfl, hb⟩; replace hB := hB.trans (hb.mono hB.size); replace p := p.below hb p.lt; replace q := q.below hb q.lt; clear hb)
            | (go_at_call 137; refine (W0.out _).mono ?_; rintro e w1 ⟨rfl, rfl⟩)
            | (rw [zero_vec]; refine wpList_store_row rfl _ _ _ rfl _ rfl _ rfl _ _ p (by rw [vfn_size]; kernel_rfl) (by simp only [vfn_size]) (vfn_one _) ?_))
          refine bodyPost_ret (results_vec rfl _ _ _ _ _ _ _ rfl (p.row (vfn (fun _ => 0))) Try.underlying31 rfl (by rw [vfn_size]; kernel_rfl)) rfl ?_; refine ⟨?_, Below.setRow hB (Nat.le_refl _) _⟩
          unfold eachF eachE; rw [HG.out]; rfl
        · go_upto_region 8 with (go_at_call 172; refine (HC.out _ hB).mono ?_; rintro e w1 ⟨rfl, hb⟩; replace hB := hB.trans (hb.mono hB.size); replace p := p.below hb p.lt; replace q := q.below hb q.lt; clear hb)
          have fz : w1.frozen? ⟨w.heap.size + 1, k, none⟩ = false := q.free _
          have cz : w1.cell? ⟨w.heap.size + 1, k, none⟩ = some (.int .i64 (pre3 x k k)) := q.cellIs (vfn_get _ hkn)
          go_wp2_with (go_at_call 137; refine (W0.out _).mono ?_; rintro e w1 ⟨rfl, rfl⟩)
          go_roundg (3 - (k + 1))
          case rel =>
            refine ⟨k + 1, by omega, rfl, fun j hj => ?_, p.setOther (by simp) _, q.set' (vfn_set hkn ?_ ?_), hB.setCell (by simp) _⟩
            · by_cases e : j = k
              · subst e; exact ⟨HE.out, HVB.out⟩
              · exact hall.out j (by omega)
            · simp [pre3]
            · intro j hj hne; simp only [pre3]; split <;> split <;> first | rfl | omega
          case measure => omega
      · have de : (er k != 0) = true := by simpa using he
        have HG := Lib.hid (show goodE x er = false from goodE_no hkn (by rintro ⟨h, _⟩; exact he h))
        clear he
        go_wp2_with (first
          | (go_at_call 172; refine (HC.out _ hB).mono ?_; rintro e w1 ⟨rfl, hb⟩; replace hB := hB.trans (hb.mono hB.size); replace p := p.below hb p.lt; replace q := q.below hb q.lt; clear hb)
          | (rw [zero_vec]; refine wpList_store_row rfl _ _ _ rfl _ rfl _ rfl _ _ p (by rw [vfn_size]; kernel_rfl) (by simp only [vfn_size]) (vfn_one _) ?_))
        refine bodyPost_ret (results_vec rfl _ _ _ _ _ _ _ rfl (p.row (vfn (fun _ => 0))) Try.underlying31 rfl (by rw [vfn_size]; kernel_rfl)) rfl ?_; refine ⟨?_, Below.setRow hB (Nat.le_refl _) _⟩
        unfold eachF eachE; rw [HG.out]; rfl
    · obtain rfl : k = 3 := by omega
      have HG := Lib.hid ((goodE_iff x er).2 hall.out)
      have e3 : vfn (pre3 x 3) = vfn x := vfn_congr fun i hi => by simp [pre3, hi]
      rw [e3] at q
      go_wp2_with (first | (refine wpList_load_rowG ?hw _ _ rfl _ rfl _ _ _ _ q Try.underlying31 rfl ?hi ?_; (case hw => (first | rfl | (simp [Region.wanted, yielded]; done))); (case hi => (rw [vfn_size]; kernel_rfl))) | (refine wpList_store_row rfl _ _ _ rfl _ rfl _ rfl _ _ p (by rw [vfn_size]; kernel_rfl) (by simp only [vfn_size]) (vfn_one _) ?_))
      refine bodyPost_ret (results_vec rfl _ _ _ _ _ _ _ rfl (p.row (vfn x)) Try.underlying31 rfl (by rw [vfn_size]; kernel_rfl)) rfl ?_; refine ⟨?_, Below.setRow hB (Nat.le_refl _) _⟩
      unfold eachF eachE; rw [HG.out]; rfl
def vbackF (g f : Nat → Int) : Nat → Int := if okM g && okV f then resF (backX g f) else fun _ => 0
def vbackE (g f : Nat → Int) : Int := if okM g && okV f then resE (backX g f) else 2
set_option maxRecDepth 100000 in
set_option maxHeartbeats 2000000 in
theorem vback_any (g f : Nat → Int) (w : World) : Calls Try.prog 128 #[.agg (mfn g), .agg (vfn f)] w fun e w' => e = .returned (.tuple #[.agg (vfn (vbackF g f)), .int .i64 (vbackE g f)]) ∧ Below w.heap.size w w' := by
  have V1 := Lib.hid (fun w => mvalid_any g w)
  have V2 := Lib.hid (fun w => valid_any f w)
  have hk : ∃ F E, (okM g = true → okV f = true → F = resF (backX g f) ∧ E = resE (backX g f)) ∧ vbackF g f = (if okM g && okV f then F else fun _ => 0) ∧ vbackE g f = (if okM g && okV f then E else 2) := ⟨_, _, fun _ _ => ⟨rfl, rfl⟩, rfl, rfl⟩
  obtain ⟨F, E, hk, e1, e2⟩ := hk
  rw [e1, e2]
  clear e1 e2
  have HK := Lib.hid hk
  clear hk
  obtain ⟨bf, hf⟩ : ∃ b, okM g = b := ⟨_, rfl⟩
  obtain ⟨bg, hg⟩ : ∃ b, okV f = b := ⟨_, rfl⟩
  rw [hf] at V1 HK ⊢
  rw [hg] at V2 HK ⊢
  have HF := Lib.hid hf
  have HG := Lib.hid hg
  clear hf hg
  go_enter Try.func128, Try.ntmps128
  go_upto_region 1 with (fail)
  rw [zero_vec]
  have p : blk (((w.alloc (.cells (mfn g) 168)).alloc (.cells (vfn f) 31)).alloc (.cells (vfn fun _ => 0) 31)) w.heap.size (mfn g) 168 := ((blk.new _ _ _).alloc _).alloc _
  have q : blk (((w.alloc (.cells (mfn g) 168)).alloc (.cells (vfn f) 31)).alloc (.cells (vfn fun _ => 0) 31)) (w.heap.size + 1) (vfn f) 31 := (blk.new' (by simp)).alloc _
  have r : blk (((w.alloc (.cells (mfn g) 168)).alloc (.cells (vfn f) 31)).alloc (.cells (vfn fun _ => 0) 31)) (w.heap.size + 1 + 1) (vfn fun _ => 0) 31 := blk.new' (by simp)
  have hB : Below w.heap.size w (((w.alloc (.cells (mfn g) 168)).alloc (.cells (vfn f) 31)).alloc (.cells (vfn fun _ => 0) 31)) := by go_grown
  generalize ((w.alloc (.cells (mfn g) 168)).alloc (.cells (vfn f) 31)).alloc (.cells (vfn fun _ => 0) 31) = w0 at *
  cases bf
  · go_wp2_with (first
      | (refine wpList_load_rowG ?hw _ _ rfl _ rfl _ _ _ _ p Try.underlying168 rfl ?hi ?_; (case hw => (first | rfl | (simp [Region.wanted, yielded]; done))); (case hi => (rw [mfn_size]; kernel_rfl)))
      | (refine wpList_load_rowG ?hw _ _ rfl _ rfl _ _ _ _ q Try.underlying31 rfl ?hi ?_; (case hw => (first | rfl | (simp [Region.wanted, yielded]; done))); (case hi => (rw [vfn_size]; kernel_rfl)))
      | (go_at_call 158; with_reducible refine (V1.out _).mono ?_; rintro e w1 ⟨rfl, hb⟩; replace hB := hB.trans (hb.mono hB.size); replace p := p.below hb p.lt; replace q := q.below hb q.lt; replace r := r.below hb r.lt; clear hb)
      | (go_at_call 78; with_reducible refine (V2.out _).mono ?_; rintro e w1 ⟨rfl, hb⟩; replace hB := hB.trans (hb.mono hB.size); replace p := p.below hb p.lt; replace q := q.below hb q.lt; replace r := r.below hb r.lt; clear hb)
      | (go_at_call 81; refine (each_no _ _).mono ?_; rintro e w2 ⟨rfl, hb⟩; replace hB := hB.trans (hb.mono hB.size); replace r := r.below hb r.lt; clear hb)
      | (refine wpList_store_row rfl _ _ _ rfl _ rfl _ rfl _ _ r (by rw [vfn_size]; kernel_rfl) (by simp only [vfn_size]) (vfn_one _) ?_))
    refine bodyPost_ret (results_vec rfl _ _ _ _ _ _ _ rfl (r.row (vfn (fun _ => 0))) Try.underlying31 rfl (by rw [vfn_size]; kernel_rfl)) rfl ?_; refine ⟨?_, Below.setRow hB (by omega) _⟩
    rfl
  cases bg
  · go_wp2_with (first
      | (refine wpList_load_rowG ?hw _ _ rfl _ rfl _ _ _ _ p Try.underlying168 rfl ?hi ?_; (case hw => (first | rfl | (simp [Region.wanted, yielded]; done))); (case hi => (rw [mfn_size]; kernel_rfl)))
      | (refine wpList_load_rowG ?hw _ _ rfl _ rfl _ _ _ _ q Try.underlying31 rfl ?hi ?_; (case hw => (first | rfl | (simp [Region.wanted, yielded]; done))); (case hi => (rw [vfn_size]; kernel_rfl)))
      | (go_at_call 158; with_reducible refine (V1.out _).mono ?_; rintro e w1 ⟨rfl, hb⟩; replace hB := hB.trans (hb.mono hB.size); replace p := p.below hb p.lt; replace q := q.below hb q.lt; replace r := r.below hb r.lt; clear hb)
      | (go_at_call 78; with_reducible refine (V2.out _).mono ?_; rintro e w1 ⟨rfl, hb⟩; replace hB := hB.trans (hb.mono hB.size); replace p := p.below hb p.lt; replace q := q.below hb q.lt; replace r := r.below hb r.lt; clear hb)
      | (go_at_call 81; refine (each_no _ _).mono ?_; rintro e w2 ⟨rfl, hb⟩; replace hB := hB.trans (hb.mono hB.size); replace r := r.below hb r.lt; clear hb)
      | (refine wpList_store_row rfl _ _ _ rfl _ rfl _ rfl _ _ r (by rw [vfn_size]; kernel_rfl) (by simp only [vfn_size]) (vfn_one _) ?_))
    refine bodyPost_ret (results_vec rfl _ _ _ _ _ _ _ rfl (r.row (vfn (fun _ => 0))) Try.underlying31 rfl (by rw [vfn_size]; kernel_rfl)) rfl ?_; refine ⟨?_, Below.setRow hB (by omega) _⟩
    rfl
  obtain ⟨hF, hE⟩ := HK.out rfl rfl
  have HFE := Lib.hid (And.intro hF hE)
  clear HK hF hE
  go_wp2_with (first
      | (refine wpList_load_rowG ?hw _ _ rfl _ rfl _ _ _ _ p Try.underlying168 rfl ?hi ?_; (case hw => (first | rfl | (simp [Region.wanted, yielded]; done))); (case hi => (rw [mfn_size]; kernel_rfl)))
      | (refine wpList_load_rowG ?hw _ _ rfl _ rfl _ _ _ _ q Try.underlying31 rfl ?hi ?_; (case hw => (first | rfl | (simp [Region.wanted, yielded]; done))); (case hi => (rw [vfn_size]; kernel_rfl)))
      | (go_at_call 158; with_reducible refine (V1.out _).mono ?_; rintro e w1 ⟨rfl, hb⟩; replace hB := hB.trans (hb.mono hB.size); replace p := p.below hb p.lt; replace q := q.below hb q.lt; replace r := r.below hb r.lt; clear hb)
      | (go_at_call 78; with_reducible refine (V2.out _).mono ?_; rintro e w1 ⟨rfl, hb⟩; replace hB := hB.trans (hb.mono hB.size); replace p := p.below hb p.lt; replace q := q.below hb q.lt; replace r := r.below hb r.lt; clear hb)
      | (go_at_call 81; refine (eachBack_any (backX g f) (fun _ => 0) _ _ _ (fun i hi wx hx => backC_any g f _ _ wx HF.out HG.out (p.below hx p.lt) (q.below hx q.lt) i hi)).mono ?_; rintro e w2 ⟨rfl, hb⟩; rw [(each_res _).1, (each_res _).2, ← HFE.out.1, ← HFE.out.2]; replace hB := hB.trans (hb.mono hB.size); replace r := r.below hb r.lt; clear hb)
      | (refine wpList_store_row rfl _ _ _ rfl _ rfl _ rfl _ _ r (by rw [vfn_size]; kernel_rfl) (by simp only [vfn_size]) (vfn_one _) ?_))
  refine bodyPost_ret (results_vec rfl _ _ _ _ _ _ _ rfl (r.row (vfn F)) Try.underlying31 rfl (by rw [vfn_size]; kernel_rfl)) rfl ?_; refine ⟨?_, Below.setRow hB (by omega) _⟩
  rfl
end Go.Proofs.Ytkmelddejdikgaa
namespace Go.Proofs.Ytkmelddejdikgaa
open Go.RowKit PM Dt
abbrev Wd (a : Int) : Prop := -2199023255552 ≤ a ∧ a ≤ 2199023255552
theorem Wd.I {a : Int} (h : Wd a) : I64 a := ⟨by have := h.1; omega, by have := h.2; omega⟩
theorem wd_prod {a b : Int} (ha : Wd a) (hb : Wd b) : -4835703278458516698824704 ≤ a * b ∧ a * b ≤ 4835703278458516698824704 :=
  bmul (P := 2199023255552) (R := 2199023255552) ha.1 ha.2 hb.1 hb.2
theorem list_W4 {a b c d : Int} (ha : Wd a) (hb : Wd b) (hc : Wd c) (hd : Wd d) : ∀ k, k < [a, b, c, d].length → I64 ([a, b, c, d].getD k 0) := by
  intro k hk
  rcases k with _ | _ | _ | _ | k
  · exact ha.I
  · exact hb.I
  · exact hc.I
  · exact hd.I
  · simp at hk; omega
theorem intsW4 {w : World} {b : Nat} {a0 a1 a2 a3 : Int} {t : TypeId} (h : blk w b #[.int .i64 a0, .int .i64 a1, .int .i64 a2, .int .i64 a3] t) : Ints w (.slice (some ⟨b, 0, none⟩) 4 4) [a0, a1, a2, a3] :=
  Or.inr ⟨by simp, b, 0, 4, rfl, h.lt, fun k hk => by
    rcases k with _ | _ | _ | _ | k
    · exact h.cellIs rfl
    · exact h.cellIs rfl
    · exact h.cellIs rfl
    · exact h.cellIs rfl
    · simp at hk; omega⟩
theorem fit4 {a0 a1 a2 a3 b0 b1 b2 b3 : Int} (ha0 : Wd a0) (ha1 : Wd a1) (ha2 : Wd a2) (ha3 : Wd a3) (hb0 : Wd b0) (hb1 : Wd b1) (hb2 : Wd b2) (hb3 : Wd b3) :
    dotV [a0, a1, a2, a3] [b0, b1, b2, b3] = rnd (dotS [a0, a1, a2, a3] [b0, b1, b2, b3]) ∧ dotE [a0, a1, a2, a3] [b0, b1, b2, b3] = 0 := by
  have p0 := wd_prod ha0 hb0
  have p1 := wd_prod ha1 hb1
  have p2 := wd_prod ha2 hb2
  have p3 := wd_prod ha3 hb3
  have e : dotS [a0, a1, a2, a3] [b0, b1, b2, b3] = a0 * b0 + (a1 * b1 + (a2 * b2 + (a3 * b3 + 0))) := by rw [dotS_cons, dotS_cons, dotS_cons, dotS_cons, dotS_nil]
  have := dotOK (S := dotS [a0, a1, a2, a3] [b0, b1, b2, b3]) (by rw [e]; omega) (by rw [e]; omega)
  unfold dotV dotE
  rw [if_neg (by simp), if_neg (by simp)]
  exact this
theorem fit2 {a0 a1 b0 b1 : Int} (ha0 : Wd a0) (ha1 : Wd a1) (hb0 : Wd b0) (hb1 : Wd b1) :
    dotV [a0, a1] [b0, b1] = rnd (dotS [a0, a1] [b0, b1]) ∧ dotE [a0, a1] [b0, b1] = 0 := by
  have p0 := wd_prod ha0 hb0
  have p1 := wd_prod ha1 hb1
  have e : dotS [a0, a1] [b0, b1] = a0 * b0 + (a1 * b1 + 0) := by rw [dotS_cons, dotS_cons, dotS_nil]
  have := dotOK (S := dotS [a0, a1] [b0, b1]) (by rw [e]; omega) (by rw [e]; omega)
  unfold dotV dotE
  rw [if_neg (by simp), if_neg (by simp)]
  exact this
theorem dq4 {a0 a1 a2 a3 b0 b1 b2 b3 : Int} (ha0 : Wd a0) (ha1 : Wd a1) (ha2 : Wd a2) (ha3 : Wd a3) (hb0 : Wd b0) (hb1 : Wd b1) (hb2 : Wd b2) (hb3 : Wd b3) (X : Int) (hX : rnd (dotS [a0, a1, a2, a3] [b0, b1, b2, b3]) = X) (x y : Nat) (w : World) (t : TypeId)
    (p : blk w x #[.int .i64 a0, .int .i64 a1, .int .i64 a2, .int .i64 a3] t) (q : blk w y #[.int .i64 b0, .int .i64 b1, .int .i64 b2, .int .i64 b3] t) :
    Calls Try.prog 60 #[.slice (some ⟨x, 0, none⟩) 4 4, .slice (some ⟨y, 0, none⟩) 4 4] w fun e w' => e = .returned (.tuple #[.int .i64 X, .int .i64 0]) ∧ Below w.heap.size w w' :=
  (dot_any [a0, a1, a2, a3] [b0, b1, b2, b3] _ _ w (intsW4 p) (intsW4 q) (list_W4 ha0 ha1 ha2 ha3) (list_W4 hb0 hb1 hb2 hb3)).mono fun e w' h => ⟨h.1.trans (by rw [(fit4 ha0 ha1 ha2 ha3 hb0 hb1 hb2 hb3).1, (fit4 ha0 ha1 ha2 ha3 hb0 hb1 hb2 hb3).2, hX]), h.2⟩
theorem dq2 {a0 a1 b0 b1 : Int} (ha0 : Wd a0) (ha1 : Wd a1) (hb0 : Wd b0) (hb1 : Wd b1) (X : Int) (hX : rnd (dotS [a0, a1] [b0, b1]) = X) (x y : Nat) (w : World) (t : TypeId)
    (p : blk w x #[.int .i64 a0, .int .i64 a1] t) (q : blk w y #[.int .i64 b0, .int .i64 b1] t) :
    Calls Try.prog 60 #[.slice (some ⟨x, 0, none⟩) 2 2, .slice (some ⟨y, 0, none⟩) 2 2] w fun e w' => e = .returned (.tuple #[.int .i64 X, .int .i64 0]) ∧ Below w.heap.size w w' :=
  (dot_any [a0, a1] [b0, b1] _ _ w (intsJ2 p) (intsJ2 q) (list_J2 ha0.I ha1.I) (list_J2 hb0.I hb1.I)).mono fun e w' h => ⟨h.1.trans (by rw [(fit2 ha0 ha1 hb0 hb1).1, (fit2 ha0 ha1 hb0 hb1).2, hX]), h.2⟩
def qent (f : Nat → Int) : Nat → Int
  | 0 => f 0 * f 0 + f 1 * f 1 - f 2 * f 2 - f 3 * f 3
  | 1 => 2 * (f 1 * f 2) - 2 * (f 0 * f 3)
  | 2 => 2 * (f 1 * f 3) + 2 * (f 0 * f 2)
  | 3 => 2 * (f 1 * f 2) + 2 * (f 0 * f 3)
  | 4 => f 0 * f 0 - f 1 * f 1 + f 2 * f 2 - f 3 * f 3
  | 5 => 2 * (f 2 * f 3) - 2 * (f 0 * f 1)
  | 6 => 2 * (f 1 * f 3) - 2 * (f 0 * f 2)
  | 7 => 2 * (f 2 * f 3) + 2 * (f 0 * f 1)
  | _ => f 0 * f 0 - f 1 * f 1 - f 2 * f 2 + f 3 * f 3
def qmatX (f : Nat → Int) (j : Nat) : Int := rnd (qent f j)
theorem ds4 (a0 a1 a2 a3 b0 b1 b2 b3 : Int) : dotS [a0, a1, a2, a3] [b0, b1, b2, b3] = a0 * b0 + (a1 * b1 + (a2 * b2 + (a3 * b3 + 0))) := by rw [dotS_cons, dotS_cons, dotS_cons, dotS_cons, dotS_nil]
theorem ds2 (a0 a1 b0 b1 : Int) : dotS [a0, a1] [b0, b1] = a0 * b0 + (a1 * b1 + 0) := by rw [dotS_cons, dotS_cons, dotS_nil]
def qmatF (f : Nat → Int) : Nat → Int := if validQ f then qmatX f else fun _ => 0
def qmatE (f : Nat → Int) : Int := if validQ f then 0 else 2
def mpre (x : Nat → Int) (n : Nat) : Nat → Int := fun j => if j < n then x j else 0
theorem mpre_step {x : Nat → Int} {k j : Nat} (h : j ≠ k) : mpre x k j = mpre x (k + 1) j := by
  have : (j < k + 1) = (j < k) := propext (by omega)
  simp only [mpre, this]
theorem pent0 (f : Nat → Int) : dotS [f 0, f 1, -f 2, -f 3] [f 0, f 1, f 2, f 3] = qent f 0 := by
  rw [ds4]; show _ = _; simp only [qent, Int.neg_mul]; omega
theorem pent1 (f : Nat → Int) : dotS [2 * f 1, -2 * f 0] [f 2, f 3] = qent f 1 := by
  rw [ds2]; show _ = _; simp only [qent, Int.mul_assoc, Int.neg_mul]
  have c1 := Int.mul_comm (f 1) (f 2)
  have c2 := Int.mul_comm (f 1) (f 3)
  have c3 := Int.mul_comm (f 2) (f 3)
  omega
theorem pent2 (f : Nat → Int) : dotS [2 * f 1, 2 * f 0] [f 3, f 2] = qent f 2 := by
  rw [ds2]; show _ = _; simp only [qent, Int.mul_assoc, Int.neg_mul]
  have c1 := Int.mul_comm (f 1) (f 2)
  have c2 := Int.mul_comm (f 1) (f 3)
  have c3 := Int.mul_comm (f 2) (f 3)
  omega
theorem pent3 (f : Nat → Int) : dotS [2 * f 2, 2 * f 0] [f 1, f 3] = qent f 3 := by
  rw [ds2]; show _ = _; simp only [qent, Int.mul_assoc, Int.neg_mul]
  have c1 := Int.mul_comm (f 1) (f 2)
  have c2 := Int.mul_comm (f 1) (f 3)
  have c3 := Int.mul_comm (f 2) (f 3)
  omega
theorem pent4 (f : Nat → Int) : dotS [f 0, f 2, -f 3, -f 1] [f 0, f 2, f 3, f 1] = qent f 4 := by
  rw [ds4]; show _ = _; simp only [qent, Int.neg_mul]; omega
theorem pent5 (f : Nat → Int) : dotS [2 * f 2, -2 * f 0] [f 3, f 1] = qent f 5 := by
  rw [ds2]; show _ = _; simp only [qent, Int.mul_assoc, Int.neg_mul]
  have c1 := Int.mul_comm (f 1) (f 2)
  have c2 := Int.mul_comm (f 1) (f 3)
  have c3 := Int.mul_comm (f 2) (f 3)
  omega
theorem pent6 (f : Nat → Int) : dotS [2 * f 3, -2 * f 0] [f 1, f 2] = qent f 6 := by
  rw [ds2]; show _ = _; simp only [qent, Int.mul_assoc, Int.neg_mul]
  have c1 := Int.mul_comm (f 1) (f 2)
  have c2 := Int.mul_comm (f 1) (f 3)
  have c3 := Int.mul_comm (f 2) (f 3)
  omega
theorem pent7 (f : Nat → Int) : dotS [2 * f 3, 2 * f 0] [f 2, f 1] = qent f 7 := by
  rw [ds2]; show _ = _; simp only [qent, Int.mul_assoc, Int.neg_mul]
  have c1 := Int.mul_comm (f 1) (f 2)
  have c2 := Int.mul_comm (f 1) (f 3)
  have c3 := Int.mul_comm (f 2) (f 3)
  omega
theorem pent8 (f : Nat → Int) : dotS [f 0, f 3, -f 1, -f 2] [f 0, f 3, f 1, f 2] = qent f 8 := by
  rw [ds4]; show _ = _; simp only [qent, Int.neg_mul]; omega
theorem wd_of {f : Nat → Int} (h : okQ f = true) {i : Nat} (hi : i < 4) : Wd (f i) ∧ Wd (-f i) ∧ Wd (2 * f i) ∧ Wd (-2 * f i) := by
  have := (vb_iff _).1 ((okQ_iff f).1 h i hi)
  unfold Wd
  omega
theorem wrap_tab : IntKind.i64.wrap 0 = 0 ∧ IntKind.i64.wrap 1 = 1 ∧ IntKind.i64.wrap 2 = 2 ∧ IntKind.i64.wrap 3 = 3 ∧ IntKind.i64.wrap 4 = 4 ∧ IntKind.i64.wrap 5 = 5 ∧ IntKind.i64.wrap 6 = 6 ∧ IntKind.i64.wrap 7 = 7 ∧ IntKind.i64.wrap 8 = 8 ∧ IntKind.i64.wrap 9 = 9 := by decide
theorem put_any {R : World → Prop} {w w6 : World} {n b r mb e K : Nat} {cp cr : Array Value} {tp tr tm : TypeId} {X : Nat → Int} {v : Int} (p : blk w6 b cp tp) (q : blk w6 r cr tr) (m : blk w6 mb (mfn (mpre X K)) tm) (hB : Below n w w6) (h1 : b ≠ mb) (h2 : r ≠ mb) (h3 : n ≤ mb) (he : e = K) (hK : K < 9) (hv : v = X e) (h : ∀ w7, blk w7 b cp tp → blk w7 r cr tr → blk w7 mb (mfn (mpre X (K + 1))) tm → Below n w w7 → R w7) : R (w6.setCell ⟨mb, e, none⟩ (.int .i64 v)) := by
  subst he
  exact h _ (p.setOther h1 _) (q.setOther h2 _) (m.set' (mfn_set hK (by simp [mpre, hv]) (fun j hj hne => mpre_step hne))) (hB.setCell h3 _)
def nxO (sk : List Nat) : List Bool → Nat → Option Nat
  | [], _ => none
  | true :: l, k => nxO sk l (k + 1)
  | false :: l, k => bif sk.contains k then nxO sk l (k + 1) else some k
theorem wpX_seq {P : Program} {l : List Oper} {n : Nat} {Q : Exit → Act → World → Prop} {f : Nat} {listed : Array Bool} {a : Act} {w : World} {i : Nat} (hi : nxO [] listed.toList 0 = some i) {o : Oper} (v : Value) (ho' : l[i]? = some o) (hg : o.guard = none)
    (hB : takeB l.toArray n i listed = true) (h : ∀ w1, More w w1 → DetR P (More w1) v ((execOp a.eval o).run P w1))
    (h2 : wpXI P l.toArray n Q f (listed.setIfInBounds i true) (a.put o.dst v) w) : wpXI P l.toArray n Q (f + 1) listed a w := wpX_take i v ho' hg hB h h2
theorem wpY_seqB {P : Program} (sk : List Nat) {l : List Oper} {e : Nat} {Q : Exit → Act → World → Prop} {f : Nat} {listed : Array Bool} {a : Act} {w : World} {i : Nat} (hi : nxO sk listed.toList 0 = some i) {o : Oper} (v : Value) (ho' : l[i]? = some o) (hg : o.guard = none)
    (hB : takeYB l.toArray i listed = true) (h : ∀ w1, DetR P (More w1) v ((execOp a.eval o).run P w1))
    (h2 : wpY P .any l.toArray e Q f (listed.setIfInBounds i true) (a.put o.dst v) w) : wpY P .any l.toArray e Q (f + 1) listed a w := wpY_takeB i v ho' hg hB h h2
set_option maxRecDepth 100000 in
set_option maxHeartbeats 8000000 in
theorem qmat_any (f : Nat → Int) (w : World) (hI : ∀ i, i < 4 → I64 (f i)) : Calls Try.prog 106 #[.agg (qfn f)] w fun e w' => e = .returned (.tuple #[.agg (mfn (qmatF f)), .int .i64 (qmatE f)]) ∧ Below w.heap.size w w' := by
  have V := Lib.hid (fun w => qvalid_any f w hI)
  unfold qmatF qmatE
  obtain ⟨bv, hv⟩ : ∃ b, validQ f = b := ⟨_, rfl⟩
  rw [hv] at V ⊢
  have HV := Lib.hid hv
  obtain ⟨X, hX⟩ : ∃ X, X = qmatX f := ⟨_, rfl⟩
  rw [← hX]
  have HX0 := Lib.hid hX
  clear hv hX
  go_enter Try.func106, Try.ntmps106
  go_upto_region 1 with (fail)
  rw [zero_mat]
  have p : blk ((w.alloc (.cells (qfn f) 23)).alloc (.cells (mfn fun _ => 0) 168)) w.heap.size (qfn f) 23 := (blk.new _ _ _).alloc _
  have r : blk ((w.alloc (.cells (qfn f) 23)).alloc (.cells (mfn fun _ => 0) 168)) (w.heap.size + 1) (mfn fun _ => 0) 168 := blk.new' (by simp)
  have hB : Below w.heap.size w ((w.alloc (.cells (qfn f) 23)).alloc (.cells (mfn fun _ => 0) 168)) := by go_grown
  generalize (w.alloc (.cells (qfn f) 23)).alloc (.cells (mfn fun _ => 0) 168) = w0 at *
  cases bv
  · go_wp2_with (first
      | (refine wpList_load_rowG ?hw _ _ rfl _ rfl _ _ _ _ p Try.underlying23 rfl ?hi ?_; (case hw => (first | rfl | (simp [Region.wanted, yielded]; done))); (case hi => (rw [qfn_size]; kernel_rfl)))
      | (go_at_call 33; with_reducible refine (V.out _).mono ?_; rintro e w1 ⟨rfl, hb⟩; replace hB := hB.trans (hb.mono hB.size); replace p := p.below hb p.lt; replace r := r.below hb r.lt; clear hb)
      | (rw [zero_mat]; refine wpList_store_row rfl _ _ _ rfl _ rfl _ rfl _ _ r (by rw [mfn_size]; kernel_rfl) (by simp only [mfn_size]) (mfn_one _) ?_))
    refine bodyPost_ret (results_vec rfl _ _ _ _ _ _ _ rfl (r.row (mfn (fun _ => 0))) Try.underlying168 rfl (by rw [mfn_size]; kernel_rfl)) rfl ?_; refine ⟨?_, Below.setRow hB (by omega) _⟩
    rfl
  have ho := validQ_ok hI HV.out
  have D0 : Hid (∀ x y w, blk w x #[.int .i64 (f 0), .int .i64 (f 1), .int .i64 (-f 2), .int .i64 (-f 3)] 2 → blk w y #[.int .i64 (f 0), .int .i64 (f 1), .int .i64 (f 2), .int .i64 (f 3)] 2 → Calls Try.prog 60 #[.slice (some ⟨x, 0, none⟩) 4 4, .slice (some ⟨y, 0, none⟩) 4 4] w fun e w' => e = .returned (.tuple #[.int .i64 (qmatX f 0), .int .i64 0]) ∧ Below w.heap.size w w') := fun x y w h1 h2 => dq4 (wd_of ho (i := 0) (by omega)).1 (wd_of ho (i := 1) (by omega)).1 (wd_of ho (i := 2) (by omega)).2.1 (wd_of ho (i := 3) (by omega)).2.1 (wd_of ho (i := 0) (by omega)).1 (wd_of ho (i := 1) (by omega)).1 (wd_of ho (i := 2) (by omega)).1 (wd_of ho (i := 3) (by omega)).1 (qmatX f 0) (by rw [pent0]; rfl) x y w _ h1 h2
  have D1 : Hid (∀ x y w, blk w x #[.int .i64 (2 * f 1), .int .i64 (-2 * f 0)] 2 → blk w y #[.int .i64 (f 2), .int .i64 (f 3)] 2 → Calls Try.prog 60 #[.slice (some ⟨x, 0, none⟩) 2 2, .slice (some ⟨y, 0, none⟩) 2 2] w fun e w' => e = .returned (.tuple #[.int .i64 (qmatX f 1), .int .i64 0]) ∧ Below w.heap.size w w') := fun x y w h1 h2 => dq2 (wd_of ho (i := 1) (by omega)).2.2.1 (wd_of ho (i := 0) (by omega)).2.2.2 (wd_of ho (i := 2) (by omega)).1 (wd_of ho (i := 3) (by omega)).1 (qmatX f 1) (by rw [pent1]; rfl) x y w _ h1 h2
  have D2 : Hid (∀ x y w, blk w x #[.int .i64 (2 * f 1), .int .i64 (2 * f 0)] 2 → blk w y #[.int .i64 (f 3), .int .i64 (f 2)] 2 → Calls Try.prog 60 #[.slice (some ⟨x, 0, none⟩) 2 2, .slice (some ⟨y, 0, none⟩) 2 2] w fun e w' => e = .returned (.tuple #[.int .i64 (qmatX f 2), .int .i64 0]) ∧ Below w.heap.size w w') := fun x y w h1 h2 => dq2 (wd_of ho (i := 1) (by omega)).2.2.1 (wd_of ho (i := 0) (by omega)).2.2.1 (wd_of ho (i := 3) (by omega)).1 (wd_of ho (i := 2) (by omega)).1 (qmatX f 2) (by rw [pent2]; rfl) x y w _ h1 h2
  have D3 : Hid (∀ x y w, blk w x #[.int .i64 (2 * f 2), .int .i64 (2 * f 0)] 2 → blk w y #[.int .i64 (f 1), .int .i64 (f 3)] 2 → Calls Try.prog 60 #[.slice (some ⟨x, 0, none⟩) 2 2, .slice (some ⟨y, 0, none⟩) 2 2] w fun e w' => e = .returned (.tuple #[.int .i64 (qmatX f 3), .int .i64 0]) ∧ Below w.heap.size w w') := fun x y w h1 h2 => dq2 (wd_of ho (i := 2) (by omega)).2.2.1 (wd_of ho (i := 0) (by omega)).2.2.1 (wd_of ho (i := 1) (by omega)).1 (wd_of ho (i := 3) (by omega)).1 (qmatX f 3) (by rw [pent3]; rfl) x y w _ h1 h2
  have D4 : Hid (∀ x y w, blk w x #[.int .i64 (f 0), .int .i64 (f 2), .int .i64 (-f 3), .int .i64 (-f 1)] 2 → blk w y #[.int .i64 (f 0), .int .i64 (f 2), .int .i64 (f 3), .int .i64 (f 1)] 2 → Calls Try.prog 60 #[.slice (some ⟨x, 0, none⟩) 4 4, .slice (some ⟨y, 0, none⟩) 4 4] w fun e w' => e = .returned (.tuple #[.int .i64 (qmatX f 4), .int .i64 0]) ∧ Below w.heap.size w w') := fun x y w h1 h2 => dq4 (wd_of ho (i := 0) (by omega)).1 (wd_of ho (i := 2) (by omega)).1 (wd_of ho (i := 3) (by omega)).2.1 (wd_of ho (i := 1) (by omega)).2.1 (wd_of ho (i := 0) (by omega)).1 (wd_of ho (i := 2) (by omega)).1 (wd_of ho (i := 3) (by omega)).1 (wd_of ho (i := 1) (by omega)).1 (qmatX f 4) (by rw [pent4]; rfl) x y w _ h1 h2
  have D5 : Hid (∀ x y w, blk w x #[.int .i64 (2 * f 2), .int .i64 (-2 * f 0)] 2 → blk w y #[.int .i64 (f 3), .int .i64 (f 1)] 2 → Calls Try.prog 60 #[.slice (some ⟨x, 0, none⟩) 2 2, .slice (some ⟨y, 0, none⟩) 2 2] w fun e w' => e = .returned (.tuple #[.int .i64 (qmatX f 5), .int .i64 0]) ∧ Below w.heap.size w w') := fun x y w h1 h2 => dq2 (wd_of ho (i := 2) (by omega)).2.2.1 (wd_of ho (i := 0) (by omega)).2.2.2 (wd_of ho (i := 3) (by omega)).1 (wd_of ho (i := 1) (by omega)).1 (qmatX f 5) (by rw [pent5]; rfl) x y w _ h1 h2
  have D6 : Hid (∀ x y w, blk w x #[.int .i64 (2 * f 3), .int .i64 (-2 * f 0)] 2 → blk w y #[.int .i64 (f 1), .int .i64 (f 2)] 2 → Calls Try.prog 60 #[.slice (some ⟨x, 0, none⟩) 2 2, .slice (some ⟨y, 0, none⟩) 2 2] w fun e w' => e = .returned (.tuple #[.int .i64 (qmatX f 6), .int .i64 0]) ∧ Below w.heap.size w w') := fun x y w h1 h2 => dq2 (wd_of ho (i := 3) (by omega)).2.2.1 (wd_of ho (i := 0) (by omega)).2.2.2 (wd_of ho (i := 1) (by omega)).1 (wd_of ho (i := 2) (by omega)).1 (qmatX f 6) (by rw [pent6]; rfl) x y w _ h1 h2
  have D7 : Hid (∀ x y w, blk w x #[.int .i64 (2 * f 3), .int .i64 (2 * f 0)] 2 → blk w y #[.int .i64 (f 2), .int .i64 (f 1)] 2 → Calls Try.prog 60 #[.slice (some ⟨x, 0, none⟩) 2 2, .slice (some ⟨y, 0, none⟩) 2 2] w fun e w' => e = .returned (.tuple #[.int .i64 (qmatX f 7), .int .i64 0]) ∧ Below w.heap.size w w') := fun x y w h1 h2 => dq2 (wd_of ho (i := 3) (by omega)).2.2.1 (wd_of ho (i := 0) (by omega)).2.2.1 (wd_of ho (i := 2) (by omega)).1 (wd_of ho (i := 1) (by omega)).1 (qmatX f 7) (by rw [pent7]; rfl) x y w _ h1 h2
  have D8 : Hid (∀ x y w, blk w x #[.int .i64 (f 0), .int .i64 (f 3), .int .i64 (-f 1), .int .i64 (-f 2)] 2 → blk w y #[.int .i64 (f 0), .int .i64 (f 3), .int .i64 (f 1), .int .i64 (f 2)] 2 → Calls Try.prog 60 #[.slice (some ⟨x, 0, none⟩) 4 4, .slice (some ⟨y, 0, none⟩) 4 4] w fun e w' => e = .returned (.tuple #[.int .i64 (qmatX f 8), .int .i64 0]) ∧ Below w.heap.size w w') := fun x y w h1 h2 => dq4 (wd_of ho (i := 0) (by omega)).1 (wd_of ho (i := 3) (by omega)).1 (wd_of ho (i := 1) (by omega)).2.1 (wd_of ho (i := 2) (by omega)).2.1 (wd_of ho (i := 0) (by omega)).1 (wd_of ho (i := 3) (by omega)).1 (wd_of ho (i := 1) (by omega)).1 (wd_of ho (i := 2) (by omega)).1 (qmatX f 8) (by rw [pent8]; rfl) x y w _ h1 h2
  have wn1 : IntKind.i64.wrap (-f 1) = -f 1 := by have := (vb_iff _).1 ((okQ_iff f).1 ho 1 (by omega)); rw [IntKind.wrap_i64]; omega
  have wn2 : IntKind.i64.wrap (-f 2) = -f 2 := by have := (vb_iff _).1 ((okQ_iff f).1 ho 2 (by omega)); rw [IntKind.wrap_i64]; omega
  have wn3 : IntKind.i64.wrap (-f 3) = -f 3 := by have := (vb_iff _).1 ((okQ_iff f).1 ho 3 (by omega)); rw [IntKind.wrap_i64]; omega
  have wt1 : IntKind.i64.wrap (2 * f 1) = 2 * f 1 := by have := (vb_iff _).1 ((okQ_iff f).1 ho 1 (by omega)); rw [IntKind.wrap_i64]; omega
  have wt2 : IntKind.i64.wrap (2 * f 2) = 2 * f 2 := by have := (vb_iff _).1 ((okQ_iff f).1 ho 2 (by omega)); rw [IntKind.wrap_i64]; omega
  have wt3 : IntKind.i64.wrap (2 * f 3) = 2 * f 3 := by have := (vb_iff _).1 ((okQ_iff f).1 ho 3 (by omega)); rw [IntKind.wrap_i64]; omega
  have wt0 : IntKind.i64.wrap (2 * f 0) = 2 * f 0 := by have := (vb_iff _).1 ((okQ_iff f).1 ho 0 (by omega)); rw [IntKind.wrap_i64]; omega
  have wm0 : IntKind.i64.wrap (-2 * f 0) = -2 * f 0 := by have := (vb_iff _).1 ((okQ_iff f).1 ho 0 (by omega)); rw [IntKind.wrap_i64]; omega
  rw [← HX0.out] at D0 D1 D2 D3 D4 D5 D6 D7 D8
  clear hI HV ho HX0
  go_upto_region 3 with (first
      | (refine wpList_load_rowG ?hw _ _ rfl _ rfl _ _ _ _ p Try.underlying23 rfl ?hi ?_; (case hw => (first | rfl | (simp [Region.wanted, yielded]; done))); (case hi => (rw [qfn_size]; kernel_rfl)))
      | (go_at_call 33; with_reducible refine (V.out _).mono ?_; rintro e w1 ⟨rfl, hb⟩; replace hB := hB.trans (hb.mono hB.size); replace p := p.below hb p.lt; replace r := r.below hb r.lt; clear hb))
  have a0 : w1.cell? ⟨w.heap.size, 0, none⟩ = some (.int .i64 (f 0)) := p.cellIs (qfn_get f (by omega))
  go_upto_region 5 with (fail)
  rw [zero_mat]
  have m := blk.new w1 (mfn fun _ => 0) 168
  have mb1 : w.heap.size + 1 < w1.heap.size := r.lt
  replace p := p.alloc (.cells (mfn fun _ => 0) 168)
  replace r := r.alloc (.cells (mfn fun _ => 0) 168)
  replace hB := hB.alloc hB.size (.cells (mfn fun _ => 0) 168)
  clear a0
  generalize w1.alloc (.cells (mfn fun _ => 0) 168) = w2 at *
  generalize w1.heap.size = mb at *
  go_wp2_with (fail)
  go_loopw [18] (fun iv wr => ∃ i : Int, 0 ≤ i ∧ i ≤ 3 ∧ iv = .int .i64 i ∧ blk wr w.heap.size (qfn f) 23 ∧ blk wr (w.heap.size + 1) (mfn fun _ => 0) 168 ∧ blk wr mb (mfn (mpre X (3 * i.toNat))) 168 ∧ Below w.heap.size w wr) (fun iv _ => 3 - (intOf iv).toNat)
  case atStart => exact ⟨0, by omega, by omega, rfl, p, r, by rw [show mfn (mpre X (3 * (0 : Int).toNat)) = mfn (fun _ => 0) from mfn_congr fun i _ => by simp [mpre]]; exact m, hB⟩
  case round =>
    clear p r m hB
    obtain ⟨i, hi0, hi3, rfl, p, r, m, hB⟩ := hrel
    have hcase : i = 0 ∨ i = 1 ∨ i = 2 ∨ i = 3 := by omega
    obtain ⟨I0, hI0⟩ : ∃ I0, I0 = 3 * i.toNat := ⟨_, rfl⟩
    rw [← hI0] at m
    rcases hcase with rfl | rfl | rfl | rfl
    iterate 3
      · go_wp2_with (fail)
        replace hI0 := Lib.hid hI0
        obtain ⟨wo, rfl⟩ : ∃ wo : World, wo = wr := ⟨_, rfl⟩
        go_loopw [21] (fun kv wi => ∃ k : Int, 0 ≤ k ∧ k ≤ 3 ∧ kv = .int .i64 k ∧ blk wi w.heap.size (qfn f) 23 ∧ blk wi (w.heap.size + 1) (mfn fun _ => 0) 168 ∧ blk wi mb (mfn (mpre X (I0 + k.toNat))) 168 ∧ Below w.heap.size w wi) (fun kv _ => 3 - (intOf kv).toNat)
        case atStart => exact ⟨0, by omega, by omega, rfl, p, r, m, hB⟩
        case round =>
          clear p r m hB
          obtain ⟨k, hk0, hk3, rfl, p, r, m, hB⟩ := hrel
          obtain ⟨K, hK⟩ : ∃ K, K = I0 + k.toNat := ⟨_, rfl⟩
          rw [← hK] at m
          have hcase : k = 0 ∨ k = 1 ∨ k = 2 ∨ k = 3 := by omega
          rcases hcase with rfl | rfl | rfl | rfl
          iterate 3
            · replace hK := Lib.hid hK
              go_upto_region 11 with (fail)
              refine wp_region_X 9 (by kernel_rfl) (by kernel_rfl) ?_
              replace p := p.drew
              replace r := r.drew
              replace m := m.drew
              replace hB : Below w.heap.size w wr.drew := hB.drew
              generalize wr.drew = wd at *
              have hc : ∀ w1, More wd w1 → ∀ k, k < 4 → w1.cell? ⟨w.heap.size, k, none⟩ = some (.int .i64 (f k)) := fun w1 h1 k hk => (p.below h1 p.lt).cellIs (qfn_get f hk)
              iterate 9
                refine wpX_seq rfl _ rfl rfl (by kernel_rfl) (fun w1 h1 => by have hd := hc w1 h1; have hw := wrap_tab; go_simp; exact ⟨rfl, Below.refl _ _⟩) ?_
                simp only [Act.put, sIT, sCZ, sCS]
              refine wpX_tail (by kernel_rfl) (fun wt ht => ?_)
              simp only [List.drop_succ_cons, List.drop_zero]
              replace hB := hB.trans (ht.mono hB.size)
              replace p := p.below ht p.lt
              replace r := r.below ht r.lt
              replace m := m.below ht m.lt
              clear ht hc
              first
                | (have hd : K = 0 ∨ K = 4 ∨ K = 8 := by have := hK.out; have := hI0.out; omega
                   clear hd
                   go_upto_region 15 with (fail)
                   refine wp_region_X 13 (by kernel_rfl) (by kernel_rfl) ?_
                   replace p := p.drew
                   replace r := r.drew
                   replace m := m.drew
                   replace hB : Below w.heap.size w wt.drew := hB.drew
                   generalize wt.drew = we at *
                   have hc : ∀ w1, More we w1 → ∀ k, k < 4 → w1.cell? ⟨w.heap.size, k, none⟩ = some (.int .i64 (f k)) := fun w1 h1 k hk => (p.below h1 p.lt).cellIs (qfn_get f hk)
                   iterate 13
                     refine wpX_seq rfl _ rfl rfl (by kernel_rfl) (fun w1 h1 => by have hd := hc w1 h1; have hw := wrap_tab; go_simp; exact ⟨rfl, Below.refl _ _⟩) ?_
                     simp only [Act.put, sIT, sCZ, sCS]
                   refine wpX_tail (by kernel_rfl) (fun wu ht => ?_)
                   simp only [List.drop_succ_cons, List.drop_zero]
                   replace hB := hB.trans (ht.mono hB.size)
                   replace p := p.below ht p.lt
                   replace r := r.below ht r.lt
                   replace m := m.below ht m.lt
                   clear ht hc
                   go_upto_region 16 with (fail)
                   refine wp_region_Y 20 21 rfl (by kernel_rfl) ?_
                   replace p := p.drew
                   replace r := r.drew
                   replace m := m.drew
                   replace hB : Below w.heap.size w wu.drew := hB.drew
                   generalize wu.drew = wo2 at *
                   iterate 13
                     refine wpY_seqB [8, 13, 14, 15, 16, 17] rfl _ rfl rfl (by kernel_rfl) (fun w1 => by have hw := wrap_tab; go_simp; (try simp only [wn1, wn2, wn3, wt0, wt1, wt2, wt3, wm0]); exact ⟨rfl, Below.refl _ _⟩) ?_
                     simp only [Act.put, sIT, sCZ, sCS]
                   refine wpY_allocs 8 13 rfl rfl rfl rfl (by decide) (by kernel_rfl) (by kernel_rfl) (by kernel_rfl) (by decide) (alloc4 rfl rfl rfl rfl rfl Try.underlying41 (by kernel_rfl) (by kernel_rfl)) (alloc4 rfl rfl rfl rfl rfl Try.underlying41 (by kernel_rfl) (by kernel_rfl)) (fun u => alloc4 rfl rfl rfl rfl rfl Try.underlying41 (by kernel_rfl) (by kernel_rfl)) (fun u => alloc4 rfl rfl rfl rfl rfl Try.underlying41 (by kernel_rfl) (by kernel_rfl)) (fun b1 b2 w4 hm n1 n2 => ?_)
                   simp only [Act.put, sIT, sCZ, sCS]
                   refine wpY_takeA 14 _ rfl rfl (by kernel_rfl) (by kernel_rfl) (fun w1 h1 => by go_simp; first | exact (D0.out _ _ _ (n1.below h1 n1.lt) (n2.below h1 n2.lt)).mono (fun e w5 h => ⟨h.1, h.2⟩) | exact (D4.out _ _ _ (n1.below h1 n1.lt) (n2.below h1 n2.lt)).mono (fun e w5 h => ⟨h.1, h.2⟩) | exact (D8.out _ _ _ (n1.below h1 n1.lt) (n2.below h1 n2.lt)).mono (fun e w5 h => ⟨h.1, h.2⟩)) ?_
                   simp only [Act.put, sIT, sCZ, sCS]
                   iterate 4
                     refine wpY_seqB [] rfl _ rfl rfl (by kernel_rfl) (fun w1 => by have hw := wrap_tab; go_simp; exact ⟨rfl, Below.refl _ _⟩) ?_
                     simp only [Act.put, sIT, sCZ, sCS]
                   refine wpY_one rfl rfl (by kernel_rfl) (fun w6 h6 => ?_))
                | (have hd : K = 1 ∨ K = 5 ∨ K = 6 := by have := hK.out; have := hI0.out; omega
                   clear hd
                   go_upto_region 18 with (fail)
                   refine wp_region_Y 21 22 rfl (by kernel_rfl) ?_
                   replace p := p.drew
                   replace r := r.drew
                   replace m := m.drew
                   replace hB : Below w.heap.size w wt.drew := hB.drew
                   generalize wt.drew = wo2 at *
                   iterate 12
                     refine wpY_seqB [6, 13, 14, 15, 16, 17, 18] rfl _ rfl rfl (by kernel_rfl) (fun w1 => by have hw := wrap_tab; go_simp; (try simp only [wn1, wn2, wn3, wt0, wt1, wt2, wt3, wm0]); exact ⟨rfl, Below.refl _ _⟩) ?_
                     simp only [Act.put, sIT, sCZ, sCS]
                   refine wpY_takeA 13 _ rfl rfl (by kernel_rfl) (by kernel_rfl) (fun w1 h1 => by have hw := wrap_tab; have hd := fun k hk => (p.below h1 p.lt).cellIs (qfn_get (i := k) f hk); go_simp; exact ⟨rfl, Below.refl _ _⟩) ?_
                   simp only [Act.put, sIT, sCZ, sCS]
                   iterate 1
                     refine wpY_seqB [6, 13, 14, 15, 16, 17, 18] rfl _ rfl rfl (by kernel_rfl) (fun w1 => by have hw := wrap_tab; go_simp; exact ⟨rfl, Below.refl _ _⟩) ?_
                     simp only [Act.put, sIT, sCZ, sCS]
                   refine wpY_allocs 6 14 rfl rfl rfl rfl (by decide) (by kernel_rfl) (by kernel_rfl) (by kernel_rfl) (by decide) (alloc2 rfl rfl rfl Try.underlying41 (by kernel_rfl) (by kernel_rfl)) (alloc2 rfl rfl rfl Try.underlying41 (by kernel_rfl) (by kernel_rfl)) (fun u => alloc2 rfl rfl rfl Try.underlying41 (by kernel_rfl) (by kernel_rfl)) (fun u => alloc2 rfl rfl rfl Try.underlying41 (by kernel_rfl) (by kernel_rfl)) (fun b1 b2 w4 hm n1 n2 => ?_)
                   simp only [Act.put, sIT, sCZ, sCS]
                   refine wpY_takeA 15 _ rfl rfl (by kernel_rfl) (by kernel_rfl) (fun w1 h1 => by go_simp; first | exact (D1.out _ _ _ (n1.below h1 n1.lt) (n2.below h1 n2.lt)).mono (fun e w5 h => ⟨h.1, h.2⟩) | exact (D5.out _ _ _ (n1.below h1 n1.lt) (n2.below h1 n2.lt)).mono (fun e w5 h => ⟨h.1, h.2⟩) | exact (D6.out _ _ _ (n1.below h1 n1.lt) (n2.below h1 n2.lt)).mono (fun e w5 h => ⟨h.1, h.2⟩)) ?_
                   simp only [Act.put, sIT, sCZ, sCS]
                   iterate 4
                     refine wpY_seqB [] rfl _ rfl rfl (by kernel_rfl) (fun w1 => by have hw := wrap_tab; go_simp; exact ⟨rfl, Below.refl _ _⟩) ?_
                     simp only [Act.put, sIT, sCZ, sCS]
                   refine wpY_one rfl rfl (by kernel_rfl) (fun w6 h6 => ?_))
                | (have hd : K = 2 ∨ K = 3 ∨ K = 7 := by have := hK.out; have := hI0.out; omega
                   clear hd
                   go_upto_region 13 with (fail)
                   refine wp_region_Y 21 22 rfl (by kernel_rfl) ?_
                   replace p := p.drew
                   replace r := r.drew
                   replace m := m.drew
                   replace hB : Below w.heap.size w wt.drew := hB.drew
                   generalize wt.drew = wo2 at *
                   iterate 12
                     refine wpY_seqB [6, 13, 14, 15, 16, 17, 18] rfl _ rfl rfl (by kernel_rfl) (fun w1 => by have hw := wrap_tab; go_simp; (try simp only [wn1, wn2, wn3, wt0, wt1, wt2, wt3, wm0]); exact ⟨rfl, Below.refl _ _⟩) ?_
                     simp only [Act.put, sIT, sCZ, sCS]
                   refine wpY_takeA 13 _ rfl rfl (by kernel_rfl) (by kernel_rfl) (fun w1 h1 => by have hw := wrap_tab; have hd := fun k hk => (p.below h1 p.lt).cellIs (qfn_get (i := k) f hk); go_simp; exact ⟨rfl, Below.refl _ _⟩) ?_
                   simp only [Act.put, sIT, sCZ, sCS]
                   iterate 1
                     refine wpY_seqB [6, 13, 14, 15, 16, 17, 18] rfl _ rfl rfl (by kernel_rfl) (fun w1 => by have hw := wrap_tab; go_simp; exact ⟨rfl, Below.refl _ _⟩) ?_
                     simp only [Act.put, sIT, sCZ, sCS]
                   refine wpY_allocs 6 14 rfl rfl rfl rfl (by decide) (by kernel_rfl) (by kernel_rfl) (by kernel_rfl) (by decide) (alloc2 rfl rfl rfl Try.underlying41 (by kernel_rfl) (by kernel_rfl)) (alloc2 rfl rfl rfl Try.underlying41 (by kernel_rfl) (by kernel_rfl)) (fun u => alloc2 rfl rfl rfl Try.underlying41 (by kernel_rfl) (by kernel_rfl)) (fun u => alloc2 rfl rfl rfl Try.underlying41 (by kernel_rfl) (by kernel_rfl)) (fun b1 b2 w4 hm n1 n2 => ?_)
                   simp only [Act.put, sIT, sCZ, sCS]
                   refine wpY_takeA 15 _ rfl rfl (by kernel_rfl) (by kernel_rfl) (fun w1 h1 => by go_simp; first | exact (D2.out _ _ _ (n1.below h1 n1.lt) (n2.below h1 n2.lt)).mono (fun e w5 h => ⟨h.1, h.2⟩) | exact (D3.out _ _ _ (n1.below h1 n1.lt) (n2.below h1 n2.lt)).mono (fun e w5 h => ⟨h.1, h.2⟩) | exact (D7.out _ _ _ (n1.below h1 n1.lt) (n2.below h1 n2.lt)).mono (fun e w5 h => ⟨h.1, h.2⟩)) ?_
                   simp only [Act.put, sIT, sCZ, sCS]
                   iterate 4
                     refine wpY_seqB [] rfl _ rfl rfl (by kernel_rfl) (fun w1 => by have hw := wrap_tab; go_simp; exact ⟨rfl, Below.refl _ _⟩) ?_
                     simp only [Act.put, sIT, sCZ, sCS]
                   refine wpY_one rfl rfl (by kernel_rfl) (fun w6 h6 => ?_))
              replace hm := More.trans hm h6
              replace p := p.below hm p.lt
              replace r := r.below hm r.lt
              replace m := m.below hm m.lt
              replace hB := hB.trans (hm.mono hB.size)
              clear hm h6 n1 n2
              have fz := fun k => m.free k
              have cz := fun k hk => m.cellIs (mfn_get (i := k) (mpre X K) hk)
              go_simp
              refine put_any p r m hB (by omega) (by omega) (by omega) (by have := hK.out; have := hI0.out; omega) (by have := hK.out; have := hI0.out; omega) rfl (fun w7 p r m hB => ?_)
              clear fz cz
              refine wpY_end (by kernel_rfl) (fun w8 h8 => ?_)
              replace p := p.below h8 p.lt
              replace r := r.below h8 r.lt
              replace m := m.below h8 m.lt
              replace hB := hB.trans (h8.mono hB.size)
              clear h8
              go_wp2_with (fail)
              go_roundw
              case rel =>
                first
                  | exact ⟨1, by omega, by omega, rfl, p, r, by rw [show I0 + (1 : Int).toNat = K + 1 from by have := hK.out; omega]; exact m, hB⟩
                  | exact ⟨2, by omega, by omega, rfl, p, r, by rw [show I0 + (2 : Int).toNat = K + 1 from by have := hK.out; omega]; exact m, hB⟩
                  | exact ⟨3, by omega, by omega, rfl, p, r, by rw [show I0 + (3 : Int).toNat = K + 1 from by have := hK.out; omega]; exact m, hB⟩
              case measure => simp [intOf]
          · have hI0 := hI0.out
            go_wp2_with (fail)
            go_roundw
            case rel =>
              first
                | exact ⟨1, by omega, by omega, rfl, p, r, by rw [show 3 * (1 : Int).toNat = K from by omega]; exact m, hB⟩
                | exact ⟨2, by omega, by omega, rfl, p, r, by rw [show 3 * (2 : Int).toNat = K from by omega]; exact m, hB⟩
                | exact ⟨3, by omega, by omega, rfl, p, r, by rw [show 3 * (3 : Int).toNat = K from by omega]; exact m, hB⟩
            case measure => simp [intOf]
    · rw [hI0] at m
      have e9 : mfn (mpre X (3 * (3 : Int).toNat)) = mfn X := mfn_congr fun j hj => by simp [mpre, hj]
      rw [e9] at m
      go_wp2_with (first | (refine wpList_load_rowG ?hw _ _ rfl _ rfl _ _ _ _ m Try.underlying168 rfl ?hi ?_; (case hw => (first | rfl | (simp [Region.wanted, yielded]; done))); (case hi => (rw [mfn_size]; kernel_rfl))) | (refine wpList_store_row rfl _ _ _ rfl _ rfl _ rfl _ _ r (by rw [mfn_size]; kernel_rfl) (by simp only [mfn_size]) (mfn_one _) ?_))
      refine bodyPost_ret (results_vec rfl _ _ _ _ _ _ _ rfl (r.row (mfn X)) Try.underlying168 rfl (by rw [mfn_size]; kernel_rfl)) rfl ?_; refine ⟨?_, Below.setRow hB (by omega) _⟩
      rfl
end Go.Proofs.Ytkmelddejdikgaa
namespace Go.Proofs.Ytkmelddejdikgaa
open Go.RowKit PM Dt
def qrotF (f v : Nat → Int) : Nat → Int := if validQ f then vapplyF (qmatX f) v else fun _ => 0
def qrotE (f v : Nat → Int) : Int := if validQ f then vapplyE (qmatX f) v else 2
def qbackF (f v : Nat → Int) : Nat → Int := if validQ f then vbackF (qmatX f) v else fun _ => 0
def qbackE (f v : Nat → Int) : Int := if validQ f then vbackE (qmatX f) v else 2
set_option maxRecDepth 100000 in
set_option maxHeartbeats 4000000 in
theorem qrot_any (f v : Nat → Int) (w : World) (hI : ∀ i, i < 4 → I64 (f i)) : Calls Try.prog 48 #[.agg (qfn f), .agg (vfn v)] w fun e w' => e = .returned (.tuple #[.agg (vfn (qrotF f v)), .int .i64 (qrotE f v)]) ∧ Below w.heap.size w w' := by
  have M := Lib.hid (fun w => qmat_any f w hI)
  have AP := Lib.hid (fun w => vapply_any (qmatX f) v w)
  unfold qmatF qmatE at M
  unfold qrotF qrotE
  obtain ⟨bv, hv⟩ : ∃ b, validQ f = b := ⟨_, rfl⟩
  rw [hv] at M ⊢
  clear hv hI
  generalize vapplyF (qmatX f) v = F at *
  generalize vapplyE (qmatX f) v = E at *
  generalize qmatX f = X at *
  cases bv
  · replace M : Hid (∀ w, Calls Try.prog 106 #[.agg (qfn f)] w fun e w' => e = .returned (.tuple #[.agg (mfn fun _ => 0), .int .i64 2]) ∧ Below w.heap.size w w') := M
    go_enter Try.func48, Try.ntmps48
    go_upto_region 1 with (fail)
    rw [zero_vec]
    have p : blk (((w.alloc (.cells (qfn f) 23)).alloc (.cells (vfn v) 31)).alloc (.cells (vfn fun _ => 0) 31)) w.heap.size (qfn f) 23 := ((blk.new _ _ _).alloc _).alloc _
    have q : blk (((w.alloc (.cells (qfn f) 23)).alloc (.cells (vfn v) 31)).alloc (.cells (vfn fun _ => 0) 31)) (w.heap.size + 1) (vfn v) 31 := (blk.new' (by simp)).alloc _
    have r : blk (((w.alloc (.cells (qfn f) 23)).alloc (.cells (vfn v) 31)).alloc (.cells (vfn fun _ => 0) 31)) (w.heap.size + 1 + 1) (vfn fun _ => 0) 31 := blk.new' (by simp)
    have hB : Below w.heap.size w (((w.alloc (.cells (qfn f) 23)).alloc (.cells (vfn v) 31)).alloc (.cells (vfn fun _ => 0) 31)) := by go_grown
    generalize ((w.alloc (.cells (qfn f) 23)).alloc (.cells (vfn v) 31)).alloc (.cells (vfn fun _ => 0) 31) = w0 at *
    go_upto_region 2 with (first | (refine wpList_load_rowG ?hw _ _ rfl _ rfl _ _ _ _ p Try.underlying23 rfl ?hi ?_; (case hw => (first | rfl | (simp [Region.wanted, yielded]; done))); (case hi => (rw [qfn_size]; kernel_rfl))) | (go_at_call 106; with_reducible refine (M.out _).mono ?_; rintro e w1 ⟨rfl, hb⟩; replace hB := hB.trans (hb.mono hB.size); replace p := p.below hb p.lt; replace q := q.below hb q.lt; replace r := r.below hb r.lt; clear hb) | (rw [zero_mat]; refine wpList_store_row rfl _ _ _ rfl _ rfl _ rfl _ _ (blk.new _ _ _) (by rw [mfn_size]; kernel_rfl) (by simp only [mfn_size]) (mfn_one _) ?_))
    have m := (blk.new w1 (mfn fun _ => 0) 168).row (mfn (fun _ => 0))
    have hne : ∀ x, x < w1.heap.size → x ≠ w1.heap.size := fun x hx => Nat.ne_of_lt hx
    replace p := (p.alloc (.cells (mfn fun _ => 0) 168)).rowOther (hne _ p.lt) (mfn (fun _ => 0))
    replace q := (q.alloc (.cells (mfn fun _ => 0) 168)).rowOther (hne _ q.lt) (mfn (fun _ => 0))
    replace r := (r.alloc (.cells (mfn fun _ => 0) 168)).rowOther (hne _ r.lt) (mfn (fun _ => 0))
    replace hB := Below.setRow (hB.alloc hB.size (.cells (mfn fun _ => 0) 168)) (g := w1.heap.size) hB.size (mfn (fun _ => 0))
    clear hne
    generalize (w1.alloc (.cells (mfn fun _ => 0) 168)).setRow w1.heap.size (mfn (fun _ => 0)) = w2 at *
    generalize w1.heap.size = mb at *
    go_wp2_with ((rw [zero_vec]; refine wpList_store_row rfl _ _ _ rfl _ rfl _ rfl _ _ r (by rw [vfn_size]; kernel_rfl) (by simp only [vfn_size]) (vfn_one _) ?_))
    refine bodyPost_ret (results_vec rfl _ _ _ _ _ _ _ rfl (r.row (vfn (fun _ => 0))) Try.underlying31 rfl (by rw [vfn_size]; kernel_rfl)) rfl ?_; refine ⟨?_, Below.setRow hB (by omega) _⟩
    rfl
  · replace M : Hid (∀ w, Calls Try.prog 106 #[.agg (qfn f)] w fun e w' => e = .returned (.tuple #[.agg (mfn X), .int .i64 0]) ∧ Below w.heap.size w w') := M
    go_enter Try.func48, Try.ntmps48
    go_upto_region 1 with (fail)
    rw [zero_vec]
    have p : blk (((w.alloc (.cells (qfn f) 23)).alloc (.cells (vfn v) 31)).alloc (.cells (vfn fun _ => 0) 31)) w.heap.size (qfn f) 23 := ((blk.new _ _ _).alloc _).alloc _
    have q : blk (((w.alloc (.cells (qfn f) 23)).alloc (.cells (vfn v) 31)).alloc (.cells (vfn fun _ => 0) 31)) (w.heap.size + 1) (vfn v) 31 := (blk.new' (by simp)).alloc _
    have r : blk (((w.alloc (.cells (qfn f) 23)).alloc (.cells (vfn v) 31)).alloc (.cells (vfn fun _ => 0) 31)) (w.heap.size + 1 + 1) (vfn fun _ => 0) 31 := blk.new' (by simp)
    have hB : Below w.heap.size w (((w.alloc (.cells (qfn f) 23)).alloc (.cells (vfn v) 31)).alloc (.cells (vfn fun _ => 0) 31)) := by go_grown
    generalize ((w.alloc (.cells (qfn f) 23)).alloc (.cells (vfn v) 31)).alloc (.cells (vfn fun _ => 0) 31) = w0 at *
    go_upto_region 2 with (first | (refine wpList_load_rowG ?hw _ _ rfl _ rfl _ _ _ _ p Try.underlying23 rfl ?hi ?_; (case hw => (first | rfl | (simp [Region.wanted, yielded]; done))); (case hi => (rw [qfn_size]; kernel_rfl))) | (go_at_call 106; with_reducible refine (M.out _).mono ?_; rintro e w1 ⟨rfl, hb⟩; replace hB := hB.trans (hb.mono hB.size); replace p := p.below hb p.lt; replace q := q.below hb q.lt; replace r := r.below hb r.lt; clear hb) | (rw [zero_mat]; refine wpList_store_row rfl _ _ _ rfl _ rfl _ rfl _ _ (blk.new _ _ _) (by rw [mfn_size]; kernel_rfl) (by simp only [mfn_size]) (mfn_one _) ?_))
    have m := (blk.new w1 (mfn fun _ => 0) 168).row (mfn X)
    have hne : ∀ x, x < w1.heap.size → x ≠ w1.heap.size := fun x hx => Nat.ne_of_lt hx
    replace p := (p.alloc (.cells (mfn fun _ => 0) 168)).rowOther (hne _ p.lt) (mfn X)
    replace q := (q.alloc (.cells (mfn fun _ => 0) 168)).rowOther (hne _ q.lt) (mfn X)
    replace r := (r.alloc (.cells (mfn fun _ => 0) 168)).rowOther (hne _ r.lt) (mfn X)
    replace hB := Below.setRow (hB.alloc hB.size (.cells (mfn fun _ => 0) 168)) (g := w1.heap.size) hB.size (mfn X)
    clear hne
    generalize (w1.alloc (.cells (mfn fun _ => 0) 168)).setRow w1.heap.size (mfn X) = w2 at *
    generalize w1.heap.size = mb at *
    go_wp2_with (first | (refine wpList_load_rowG ?hw _ _ rfl _ rfl _ _ _ _ m Try.underlying168 rfl ?hi ?_; (case hw => (first | rfl | (simp [Region.wanted, yielded]; done))); (case hi => (rw [mfn_size]; kernel_rfl))) | (refine wpList_load_rowG ?hw _ _ rfl _ rfl _ _ _ _ q Try.underlying31 rfl ?hi ?_; (case hw => (first | rfl | (simp [Region.wanted, yielded]; done))); (case hi => (rw [vfn_size]; kernel_rfl))) | (go_at_call 107; with_reducible refine (AP.out _).mono ?_; rintro e w3 ⟨rfl, hb⟩; replace hB := hB.trans (hb.mono hB.size); replace r := r.below hb r.lt; clear hb) | (refine wpList_store_row rfl _ _ _ rfl _ rfl _ rfl _ _ r (by rw [vfn_size]; kernel_rfl) (by simp only [vfn_size]) (vfn_one _) ?_))
    refine bodyPost_ret (results_vec rfl _ _ _ _ _ _ _ rfl (r.row (vfn F)) Try.underlying31 rfl (by rw [vfn_size]; kernel_rfl)) rfl ?_; refine ⟨?_, Below.setRow hB (by omega) _⟩
    rfl
set_option maxRecDepth 100000 in
set_option maxHeartbeats 4000000 in
theorem qback_any (f v : Nat → Int) (w : World) (hI : ∀ i, i < 4 → I64 (f i)) : Calls Try.prog 68 #[.agg (qfn f), .agg (vfn v)] w fun e w' => e = .returned (.tuple #[.agg (vfn (qbackF f v)), .int .i64 (qbackE f v)]) ∧ Below w.heap.size w w' := by
  have M := Lib.hid (fun w => qmat_any f w hI)
  have AP := Lib.hid (fun w => vback_any (qmatX f) v w)
  unfold qmatF qmatE at M
  unfold qbackF qbackE
  obtain ⟨bv, hv⟩ : ∃ b, validQ f = b := ⟨_, rfl⟩
  rw [hv] at M ⊢
  clear hv hI
  generalize vbackF (qmatX f) v = F at *
  generalize vbackE (qmatX f) v = E at *
  generalize qmatX f = X at *
  cases bv
  · replace M : Hid (∀ w, Calls Try.prog 106 #[.agg (qfn f)] w fun e w' => e = .returned (.tuple #[.agg (mfn fun _ => 0), .int .i64 2]) ∧ Below w.heap.size w w') := M
    go_enter Try.func68, Try.ntmps68
    go_upto_region 1 with (fail)
    rw [zero_vec]
    have p : blk (((w.alloc (.cells (qfn f) 23)).alloc (.cells (vfn v) 31)).alloc (.cells (vfn fun _ => 0) 31)) w.heap.size (qfn f) 23 := ((blk.new _ _ _).alloc _).alloc _
    have q : blk (((w.alloc (.cells (qfn f) 23)).alloc (.cells (vfn v) 31)).alloc (.cells (vfn fun _ => 0) 31)) (w.heap.size + 1) (vfn v) 31 := (blk.new' (by simp)).alloc _
    have r : blk (((w.alloc (.cells (qfn f) 23)).alloc (.cells (vfn v) 31)).alloc (.cells (vfn fun _ => 0) 31)) (w.heap.size + 1 + 1) (vfn fun _ => 0) 31 := blk.new' (by simp)
    have hB : Below w.heap.size w (((w.alloc (.cells (qfn f) 23)).alloc (.cells (vfn v) 31)).alloc (.cells (vfn fun _ => 0) 31)) := by go_grown
    generalize ((w.alloc (.cells (qfn f) 23)).alloc (.cells (vfn v) 31)).alloc (.cells (vfn fun _ => 0) 31) = w0 at *
    go_upto_region 2 with (first | (refine wpList_load_rowG ?hw _ _ rfl _ rfl _ _ _ _ p Try.underlying23 rfl ?hi ?_; (case hw => (first | rfl | (simp [Region.wanted, yielded]; done))); (case hi => (rw [qfn_size]; kernel_rfl))) | (go_at_call 106; with_reducible refine (M.out _).mono ?_; rintro e w1 ⟨rfl, hb⟩; replace hB := hB.trans (hb.mono hB.size); replace p := p.below hb p.lt; replace q := q.below hb q.lt; replace r := r.below hb r.lt; clear hb) | (rw [zero_mat]; refine wpList_store_row rfl _ _ _ rfl _ rfl _ rfl _ _ (blk.new _ _ _) (by rw [mfn_size]; kernel_rfl) (by simp only [mfn_size]) (mfn_one _) ?_))
    have m := (blk.new w1 (mfn fun _ => 0) 168).row (mfn (fun _ => 0))
    have hne : ∀ x, x < w1.heap.size → x ≠ w1.heap.size := fun x hx => Nat.ne_of_lt hx
    replace p := (p.alloc (.cells (mfn fun _ => 0) 168)).rowOther (hne _ p.lt) (mfn (fun _ => 0))
    replace q := (q.alloc (.cells (mfn fun _ => 0) 168)).rowOther (hne _ q.lt) (mfn (fun _ => 0))
    replace r := (r.alloc (.cells (mfn fun _ => 0) 168)).rowOther (hne _ r.lt) (mfn (fun _ => 0))
    replace hB := Below.setRow (hB.alloc hB.size (.cells (mfn fun _ => 0) 168)) (g := w1.heap.size) hB.size (mfn (fun _ => 0))
    clear hne
    generalize (w1.alloc (.cells (mfn fun _ => 0) 168)).setRow w1.heap.size (mfn (fun _ => 0)) = w2 at *
    generalize w1.heap.size = mb at *
    go_wp2_with ((rw [zero_vec]; refine wpList_store_row rfl _ _ _ rfl _ rfl _ rfl _ _ r (by rw [vfn_size]; kernel_rfl) (by simp only [vfn_size]) (vfn_one _) ?_))
    refine bodyPost_ret (results_vec rfl _ _ _ _ _ _ _ rfl (r.row (vfn (fun _ => 0))) Try.underlying31 rfl (by rw [vfn_size]; kernel_rfl)) rfl ?_; refine ⟨?_, Below.setRow hB (by omega) _⟩
    rfl
  · replace M : Hid (∀ w, Calls Try.prog 106 #[.agg (qfn f)] w fun e w' => e = .returned (.tuple #[.agg (mfn X), .int .i64 0]) ∧ Below w.heap.size w w') := M
    go_enter Try.func68, Try.ntmps68
    go_upto_region 1 with (fail)
    rw [zero_vec]
    have p : blk (((w.alloc (.cells (qfn f) 23)).alloc (.cells (vfn v) 31)).alloc (.cells (vfn fun _ => 0) 31)) w.heap.size (qfn f) 23 := ((blk.new _ _ _).alloc _).alloc _
    have q : blk (((w.alloc (.cells (qfn f) 23)).alloc (.cells (vfn v) 31)).alloc (.cells (vfn fun _ => 0) 31)) (w.heap.size + 1) (vfn v) 31 := (blk.new' (by simp)).alloc _
    have r : blk (((w.alloc (.cells (qfn f) 23)).alloc (.cells (vfn v) 31)).alloc (.cells (vfn fun _ => 0) 31)) (w.heap.size + 1 + 1) (vfn fun _ => 0) 31 := blk.new' (by simp)
    have hB : Below w.heap.size w (((w.alloc (.cells (qfn f) 23)).alloc (.cells (vfn v) 31)).alloc (.cells (vfn fun _ => 0) 31)) := by go_grown
    generalize ((w.alloc (.cells (qfn f) 23)).alloc (.cells (vfn v) 31)).alloc (.cells (vfn fun _ => 0) 31) = w0 at *
    go_upto_region 2 with (first | (refine wpList_load_rowG ?hw _ _ rfl _ rfl _ _ _ _ p Try.underlying23 rfl ?hi ?_; (case hw => (first | rfl | (simp [Region.wanted, yielded]; done))); (case hi => (rw [qfn_size]; kernel_rfl))) | (go_at_call 106; with_reducible refine (M.out _).mono ?_; rintro e w1 ⟨rfl, hb⟩; replace hB := hB.trans (hb.mono hB.size); replace p := p.below hb p.lt; replace q := q.below hb q.lt; replace r := r.below hb r.lt; clear hb) | (rw [zero_mat]; refine wpList_store_row rfl _ _ _ rfl _ rfl _ rfl _ _ (blk.new _ _ _) (by rw [mfn_size]; kernel_rfl) (by simp only [mfn_size]) (mfn_one _) ?_))
    have m := (blk.new w1 (mfn fun _ => 0) 168).row (mfn X)
    have hne : ∀ x, x < w1.heap.size → x ≠ w1.heap.size := fun x hx => Nat.ne_of_lt hx
    replace p := (p.alloc (.cells (mfn fun _ => 0) 168)).rowOther (hne _ p.lt) (mfn X)
    replace q := (q.alloc (.cells (mfn fun _ => 0) 168)).rowOther (hne _ q.lt) (mfn X)
    replace r := (r.alloc (.cells (mfn fun _ => 0) 168)).rowOther (hne _ r.lt) (mfn X)
    replace hB := Below.setRow (hB.alloc hB.size (.cells (mfn fun _ => 0) 168)) (g := w1.heap.size) hB.size (mfn X)
    clear hne
    generalize (w1.alloc (.cells (mfn fun _ => 0) 168)).setRow w1.heap.size (mfn X) = w2 at *
    generalize w1.heap.size = mb at *
    go_wp2_with (first | (refine wpList_load_rowG ?hw _ _ rfl _ rfl _ _ _ _ m Try.underlying168 rfl ?hi ?_; (case hw => (first | rfl | (simp [Region.wanted, yielded]; done))); (case hi => (rw [mfn_size]; kernel_rfl))) | (refine wpList_load_rowG ?hw _ _ rfl _ rfl _ _ _ _ q Try.underlying31 rfl ?hi ?_; (case hw => (first | rfl | (simp [Region.wanted, yielded]; done))); (case hi => (rw [vfn_size]; kernel_rfl))) | (go_at_call 128; with_reducible refine (AP.out _).mono ?_; rintro e w3 ⟨rfl, hb⟩; replace hB := hB.trans (hb.mono hB.size); replace r := r.below hb r.lt; clear hb) | (refine wpList_store_row rfl _ _ _ rfl _ rfl _ rfl _ _ r (by rw [vfn_size]; kernel_rfl) (by simp only [vfn_size]) (vfn_one _) ?_))
    refine bodyPost_ret (results_vec rfl _ _ _ _ _ _ _ rfl (r.row (vfn F)) Try.underlying31 rfl (by rw [vfn_size]; kernel_rfl)) rfl ?_; refine ⟨?_, Below.setRow hB (by omega) _⟩
    rfl
end Go.Proofs.Ytkmelddejdikgaa
namespace Go.Proofs.Ytkmelddejdikgaa
open Go.RowKit PM Dt
end Go.Proofs.Ytkmelddejdikgaa
namespace Go.Proofs.Ytkmelddejdikgaa
open Go.ChangeShapes Go.WideShapes Go.ChangeAt Go.RowKit
end Go.Proofs.Ytkmelddejdikgaa
