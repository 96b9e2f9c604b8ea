/-
  Small laws on blocks of memory that hold a whole array, and the digits of a number as such an array. No function of the program is walked here.
-/
import Derived.Test.YthkklhfnmodpnaaProg
import Derived.Test.YthkklhfnmodpnaaMath
import Derived.WalkKit
import Derived.WalkSpells
import Derived.WalkLawsBesides
import Derived.Handy
import Derived.Deep.QuietTactic
import Derived.BigQuiet
import Derived.Lib.Hide
import Derived.ChangeKeysEq
import Derived.Deep.RegionHeld3
set_option linter.unusedSimpArgs false
set_option linter.unusedVariables false
namespace Go.Proofs.Ythkklhfnmodpnaa
open Go.RowKit
variable {P : Program}

/-- Block b holds the cells c. -/
def blk (w : World) (b : Nat) (c : Array Value) (t : TypeId) : Prop := w.heap[b]? = some (.cells c t (0, 0))
theorem blk.lt {w : World} {b : Nat} {c : Array Value} {t : TypeId} (h : blk w b c t) : b < w.heap.size := by
  unfold blk at h
  exact (Array.getElem?_eq_some_iff.1 h).1
theorem blk.new (w : World) (c : Array Value) (t : TypeId) : blk (w.alloc (.cells c t)) w.heap.size c t := heap_alloc_new w _
theorem blk.new' {w : World} {c : Array Value} {t : TypeId} {b : Nat} (h : b = w.heap.size) : blk (w.alloc (.cells c t)) b c t := by subst h; exact heap_alloc_new w _
theorem blk.alloc {w : World} {b : Nat} {c : Array Value} {t : TypeId} (h : blk w b c t) (o : Obj) : blk (w.alloc o) b c t := by
  have := h.lt
  unfold blk at *
  rw [Below.heap_alloc _ _ _ this]; exact h
theorem blk.drew {w : World} {b : Nat} {c : Array Value} {t : TypeId} (h : blk w b c t) : blk w.drew b c t := h
theorem blk.drewN {w : World} {b : Nat} {c : Array Value} {t : TypeId} (h : blk w b c t) (n : Nat) : blk (w.drewN n) b c t := h
theorem blk.set {w : World} {b : Nat} {c : Array Value} {t : TypeId} (h : blk w b c t) (i : Nat) (v : Value) : blk (w.setCell ⟨b, i, none⟩ v) b (c.setIfInBounds i v) t := heap_setCell_same w b i c t v h
theorem blk.set' {w : World} {b : Nat} {c c' : Array Value} {t : TypeId} (h : blk w b c t) {i : Nat} {v : Value} (hc : c.setIfInBounds i v = c') : blk (w.setCell ⟨b, i, none⟩ v) b c' t := by subst hc; exact h.set i v
theorem blk.setOther {w : World} {b : Nat} {c : Array Value} {t : TypeId} (h : blk w b c t) {a : Addr} (ha : b ≠ a.block) (v : Value) : blk (w.setCell a v) b c t := by
  unfold blk at *
  rw [heap_setCell_other _ _ _ _ ha]; exact h
theorem blk.row {w : World} {b : Nat} {c : Array Value} {t : TypeId} (h : blk w b c t) (c' : Array Value) : blk (w.setRow b c') b c' t := setRow_heap w b c c' t _ h
theorem blk.rowOther {w : World} {b : Nat} {c : Array Value} {t : TypeId} (h : blk w b c t) {g : Nat} (hg : b ≠ g) (c' : Array Value) : blk (w.setRow g c') b c t := by
  unfold blk at *
  rw [setRow_other _ _ _ _ hg]; exact h
theorem blk.cell {w : World} {b : Nat} {c : Array Value} {t : TypeId} (h : blk w b c t) (i : Nat) : w.cell? ⟨b, i, none⟩ = c[i]? := cell_of_row w b i c t _ h
theorem blk.cellIs {w : World} {b : Nat} {c : Array Value} {t : TypeId} (h : blk w b c t) {i : Nat} {v : Value} (hv : c[i]? = some v) : w.cell? ⟨b, i, none⟩ = some v := (h.cell i).trans hv
theorem blk.free {w : World} {b : Nat} {c : Array Value} {t : TypeId} (h : blk w b c t) (i : Nat) : w.frozen? ⟨b, i, none⟩ = false := frozen_of_row w b i c t h
theorem blk.below {w w' : World} {b B : Nat} {c : Array Value} {t : TypeId} (h : blk w b c t) (hb : Below B w w') (hB : b < B) : blk w' b c t := by
  unfold blk at *
  rw [hb.block b hB]; exact h
theorem Below.setRow {B : Nat} {a w : World} (h : Below B a w) {g : Nat} (hB : B ≤ g) (c : Array Value) : Below B a (w.setRow g c) :=
  h.trans ⟨rfl, rfl, rfl, by simp, fun k hk => setRow_other _ _ _ _ (by omega)⟩
theorem size_drewN (w : World) (n : Nat) : (w.drewN n).heap.size = w.heap.size := rfl

/-- A whole array is stored into the block that holds one. -/
theorem wpList_store_row {ops : Array Oper} {rest : List Oper} {o : Oper} {a : Act} {w : World} {Q : Exit → Act → World → Prop} (hgd : o.guard = none) (ty : TypeId) (x y : Operand) (ho : o.op = .store ty x y)
    (g : Nat) (hx : a.eval x = .pointer (some ⟨g, 0, none⟩)) (c' : Array Value) (hy : a.eval y = .agg c') (t : TypeId) (c : Array Value) (hg : blk w g c t)
    (hi : (P.info? ty).map (·.size) = some c'.size) (hs : c.size = c'.size) (h1 : c'.all (·.oneCell') = true)
    (h : wpList P ops Q rest (a.put o.dst undef) (w.setRow g c')) : wpList P ops Q (o :: rest) a w :=
  wpList_plain hgd fun _ hK => by
    unfold Oper.wp execOp
    simp only [ho, hx, hy, Instr.storeAt, Instr.sureAddr, Sem.run_bind, Sem.run_pure, Result.andThen_ok, run_storeVar_row w g t ty c c' hg hi hs h1]
    exact hK _ _ h

/-- 17 digits, as cells. -/
def fnC (f : Nat → Nat) : Array Value := ((List.range 17).map fun i => Value.int .u64 (f i : Nat)).toArray
/-- A number's digits, as cells. -/
abbrev bigC (n : Nat) : Array Value := fnC (PM.dg n)
theorem fnC_size (f : Nat → Nat) : (fnC f).size = 17 := by simp [fnC]
theorem bigC_size (n : Nat) : (bigC n).size = 17 := fnC_size _
theorem fnC_one (f : Nat → Nat) : (fnC f).all (·.oneCell') = true := by
  simp [fnC, Value.oneCell']
theorem fnC_get (f : Nat → Nat) {i : Nat} (h : i < 17) : (fnC f)[i]? = some (.int .u64 (f i : Nat)) := by
  simp [fnC, List.getElem?_range h]
theorem fnC_congr {f g : Nat → Nat} (h : ∀ i, i < 17 → f i = g i) : fnC f = fnC g := by
  apply Array.ext_getElem?
  intro j
  by_cases hj : j < 17
  · rw [fnC_get _ hj, fnC_get _ hj, h j hj]
  · rw [Array.getElem?_eq_none (by rw [fnC_size]; omega), Array.getElem?_eq_none (by rw [fnC_size]; omega)]
theorem fnC_inj {f g : Nat → Nat} (h : fnC f = fnC g) {i : Nat} (hi : i < 17) : f i = g i := by
  have := fnC_get f hi
  rw [h, fnC_get g hi] at this
  simp only [Option.some.injEq, Value.int.injEq, true_and] at this
  omega
theorem fnC_set {f g : Nat → Nat} {i : Nat} {v : Int} (h : i < 17) (hx : v = (g i : Nat)) (hg : ∀ j, j < 17 → j ≠ i → f j = g j) : (fnC f).setIfInBounds i (.int .u64 v) = fnC g := by
  subst hx
  apply Array.ext_getElem?
  intro j
  rw [Array.getElem?_setIfInBounds, fnC_size]
  by_cases hj : j < 17
  · by_cases e : i = j
    · subst e; rw [if_pos rfl, if_pos h, fnC_get _ h]
    · rw [if_neg e, fnC_get _ hj, fnC_get _ hj, hg j hj (Ne.symm e)]
  · by_cases e : i = j
    · omega
    · rw [if_neg e]
      rw [Array.getElem?_eq_none (by rw [fnC_size]; omega), Array.getElem?_eq_none (by rw [fnC_size]; omega)]
theorem zero_big : fnC (fun _ => 0) = #[.int .u64 0, .int .u64 0, .int .u64 0, .int .u64 0, .int .u64 0, .int .u64 0, .int .u64 0, .int .u64 0, .int .u64 0, .int .u64 0, .int .u64 0, .int .u64 0, .int .u64 0, .int .u64 0, .int .u64 0, .int .u64 0, .int .u64 0] := rfl
theorem bigC_zero : bigC 0 = fnC (fun _ => 0) := fnC_congr fun i _ => by simp [PM.dg]
theorem zero_eq_big : #[Value.int .u64 0, .int .u64 0, .int .u64 0, .int .u64 0, .int .u64 0, .int .u64 0, .int .u64 0, .int .u64 0, .int .u64 0, .int .u64 0, .int .u64 0, .int .u64 0, .int .u64 0, .int .u64 0, .int .u64 0, .int .u64 0, .int .u64 0] = bigC 0 := by rw [bigC_zero]; rfl
theorem ret2I {j k : IntKind} {a b c d : Int} (h1 : a = c) (h2 : b = d) : Ending.returned (.tuple #[.int j a, .int k b]) = Ending.returned (.tuple #[.int j c, .int k d]) := by rw [h1, h2]
theorem fitV_no {q : Int} (h : PM.inI q = false) : PM.fitV q = 0 := by unfold PM.fitV; rw [h]; rfl
theorem fitE_no {q : Int} (h : PM.inI q = false) : PM.fitE q = 7 := by unfold PM.fitE; rw [h]; rfl
theorem fitV_yes {q : Int} (h : PM.inI q = true) : PM.fitV q = q := by unfold PM.fitV; rw [h]; rfl
theorem fitE_yes {q : Int} (h : PM.inI q = true) : PM.fitE q = 0 := by unfold PM.fitE; rw [h]; rfl
/-- A number with a sign. -/
def sgn (neg : Bool) (n : Nat) : Int := if neg then -(n : Int) else n
section
variable {P : Program}
theorem run_eqItems_ints {e : TypeId} {k : IntKind} (he : P.underlying e = some (.int k)) (f g : Nat → Int) (xs ys : Array Value) (d : Nat) (w : World) :
    ∀ (l : List Nat), (∀ j ∈ l, xs[j]? = some (.int k (f j))) → (∀ j ∈ l, ys[j]? = some (.int k (g j))) →
    (Op.eqItems (d + 1) e 1 xs ys l).run P w = .ok (l.all fun j => f j == g j) w
  | [], _, _ => by simp [Op.eqItems]
  | j :: l, hx, hy => by
    have px : (part e xs (j * 1)).run P w = .ok (.int k (f j)) w := by
      simp [part, isAgg, run_underlying he, hx j (by simp)]
    have py : (part e ys (j * 1)).run P w = .ok (.int k (g j)) w := by
      simp [part, isAgg, run_underlying he, hy j (by simp)]
    have pe := run_equalIn_int (P := P) w d e k k (f j) (g j) he
    simp only [Op.eqItems, Sem.run_bind, px, py, pe, Result.andThen_ok, List.all_cons]
    cases hb : (f j == g j)
    · simp
    · simpa using run_eqItems_ints he f g xs ys d w l (fun i hi => hx i (by simp [hi])) (fun i hi => hy i (by simp [hi]))
theorem run_equalIn_ints {t e : TypeId} {n : Nat} {k : IntKind} {i : TypeInfo} (hu : P.underlying t = some (.array n e)) (hi : P.info? e = some i) (hc : P.cellsOf e = 1) (he : P.underlying e = some (.int k))
    (f g : Nat → Int) (xs ys : Array Value) (hx : ∀ j, j < n → xs[j]? = some (.int k (f j))) (hy : ∀ j, j < n → ys[j]? = some (.int k (g j))) (d : Nat) (w : World) :
    (Op.equalIn (d + 2) t (.agg xs) (.agg ys)).run P w = .ok ((List.range n).all fun j => f j == g j) w := by
  rw [run_equalIn_array w (d + 1) xs ys hu hi, hc]
  exact run_eqItems_ints he f g xs ys d w _ (fun j hj => hx j (List.mem_range.1 hj)) (fun j hj => hy j (List.mem_range.1 hj))
end
theorem run_equalIn_big (n m : Nat) (hn : n < 65536 ^ 17) (hm : m < 65536 ^ 17) (w : World) :
    (Op.equalIn 10000 76 (.agg (bigC n)) (.agg (bigC m))).run Try.prog w = .ok (decide (n = m)) w := by
  obtain ⟨i, hi⟩ : ∃ i, Try.prog.info? 74 = some i := Option.isSome_iff_exists.1 (by kernel_rfl)
  have hc : Try.prog.cellsOf 74 = 1 := by kernel_rfl
  have key := run_equalIn_ints (P := Try.prog) Try.underlying76 hi hc Try.underlying74 (fun j => (PM.dg n j : Nat)) (fun j => (PM.dg m j : Nat)) (bigC n) (bigC m) (fun j hj => fnC_get _ hj) (fun j hj => fnC_get _ hj) 9998 w
  have e1 : ((List.range 17).all fun j => ((PM.dg n j : Nat) : Int) == ((PM.dg m j : Nat) : Int)) = decide (n = m) := ?_
  · rw [← e1]
    exact key
  rw [Bool.eq_iff_iff]
  simp only [List.all_eq_true, List.mem_range, beq_iff_eq, decide_eq_true_eq]
  constructor
  · intro h
    exact PM.eq_of_all hn hm fun j hj => by have := h j hj; omega
  · rintro rfl j _; rfl
attribute [irreducible] fnC
end Go.Proofs.Ythkklhfnmodpnaa
