/-
  Numbers that are doubled until one of them is great, and a row of numbers in a block of its own. Shifted of the specification. The builtin max over integers.
-/
import Derived.Test.YtkmelddejdikgaaVecF
import Derived.ArgAppend
import Derived.Test.YtkmelddejdikgaaBase
set_option linter.unusedSimpArgs false
set_option linter.unusedVariables false
namespace Go.Proofs.Ytkmelddejdikgaa
open Go.RowKit PM Dt
def sm (a : Int) : Bool := decide (-35184372088832 < a) && decide (a < 35184372088832)
theorem sm_iff (a : Int) : sm a = true ↔ (-35184372088832 < a ∧ a < 35184372088832) := by unfold sm; rw [Bool.and_eq_true, decide_eq_true_eq, decide_eq_true_eq]
def sml (n : Nat) (f : Nat → Int) : Bool := (List.range n).all fun i => sm (f i)
theorem sml_iff (n : Nat) (f : Nat → Int) : sml n f = true ↔ ∀ i, i < n → sm (f i) = true := by
  unfold sml; rw [List.all_eq_true]
  exact ⟨fun h i hi => h i (List.mem_range.2 hi), fun h i hi => h i (List.mem_range.1 hi)⟩
theorem sml_no {n : Nat} {f : Nat → Int} {i : Nat} (hi : i < n) (h : sm (f i) = false) : sml n f = false := by
  rw [Bool.eq_false_iff]; intro h2
  rw [(sml_iff n f).1 h2 i hi] at h; cases h
def dbl (f : Nat → Int) : Nat → Int := fun i => 2 * f i
def shft (n : Nat) : Nat → (Nat → Int) → (Nat → Int)
  | 0, f => f
  | k + 1, f => if sml n f then shft n k (dbl f) else f
def low (n k : Nat) (f : Nat → Int) : Prop := ∃ i, i < n ∧ (35184372088832 : Int) ≤ 2 ^ k * (f i).natAbs
def upb (n : Nat) (f : Nat → Int) : Prop := ∀ i, i < n → -70368744177664 ≤ f i ∧ f i ≤ 70368744177664
theorem low_zero {n : Nat} {f : Nat → Int} (h : low n 0 f) : sml n f = false := by
  obtain ⟨i, hi, h⟩ := h
  refine sml_no hi ?_
  rw [Bool.eq_false_iff]; intro h2
  have := (sm_iff _).1 h2
  rw [Int.pow_zero, Int.one_mul] at h
  omega
theorem low_step {n k : Nat} {f : Nat → Int} (h : low n (k + 1) f) : low n k (dbl f) := by
  obtain ⟨i, hi, h⟩ := h
  refine ⟨i, hi, ?_⟩
  have e : ((dbl f i).natAbs : Int) = 2 * (f i).natAbs := by unfold dbl; omega
  rw [e, ← Int.mul_assoc]
  rw [Int.pow_succ] at h
  exact h
theorem low_start {n : Nat} {f : Nat → Int} {i : Nat} (hi : i < n) (h : f i ≠ 0) : low n 45 f := by
  refine ⟨i, hi, ?_⟩
  have : (1 : Int) ≤ (f i).natAbs := by omega
  have e : (2 : Int) ^ 45 = 35184372088832 := by decide
  rw [e]; omega
theorem upb_step {n : Nat} {f : Nat → Int} (h : sml n f = true) : upb n (dbl f) := by
  intro i hi
  have := (sm_iff _).1 ((sml_iff n f).1 h i hi)
  unfold dbl; omega
theorem upb_I {n : Nat} {f : Nat → Int} (h : upb n f) : ∀ i, i < n → I64 (f i) := fun i hi => ⟨by have := (h i hi).1; omega, by have := (h i hi).2; omega⟩
theorem shft_big {n k : Nat} {f : Nat → Int} (h : sml n f = false) : shft n k f = f := by
  cases k with
  | zero => rfl
  | succ k => rw [shft, if_neg (by rw [h]; simp)]
theorem shft_step {n k : Nat} {f : Nat → Int} (h : sml n f = true) : shft n (k + 1) f = shft n k (dbl f) := by rw [shft, if_pos h]
theorem shft_upb {n : Nat} : ∀ (k : Nat) (f : Nat → Int), upb n f → upb n (shft n k f)
  | 0, f, h => h
  | k + 1, f, h => by
    by_cases hs : sml n f = true
    · rw [shft_step hs]; exact shft_upb k (dbl f) (upb_step hs)
    · rw [shft_big (by simpa using hs)]; exact h
def rowb (w : World) (b n : Nat) (f : Nat → Int) : Prop := ∃ cs t, blk w b cs t ∧ ∀ j, j < n → cs[j]? = some (.int .i64 (f j))
theorem rowb.lt {w : World} {b n : Nat} {f : Nat → Int} (h : rowb w b n f) : b < w.heap.size := by obtain ⟨_, _, h, _⟩ := h; exact h.lt
theorem rowb.below {w w' : World} {b n : Nat} {f : Nat → Int} (h : rowb w b n f) {B : Nat} (hm : Below B w w') (hb : b < B) : rowb w' b n f := by
  obtain ⟨cs, t, h, hc⟩ := h; exact ⟨cs, t, h.below hm hb, hc⟩
theorem rowb.drew {w : World} {b n : Nat} {f : Nat → Int} (h : rowb w b n f) : rowb w.drew b n f := h
theorem rowb.cell {w : World} {b n : Nat} {f : Nat → Int} (h : rowb w b n f) {j : Nat} (hj : j < n) : w.cell? ⟨b, j, none⟩ = some (.int .i64 (f j)) := by
  obtain ⟨cs, t, h, hc⟩ := h; exact h.cellIs (hc j hj)
theorem rowb.free {w : World} {b n : Nat} {f : Nat → Int} (h : rowb w b n f) (j : Nat) : w.frozen? ⟨b, j, none⟩ = false := by
  obtain ⟨cs, t, h, hc⟩ := h; exact h.free j
theorem rowb.set {w : World} {b n : Nat} {f g : Nat → Int} (h : rowb w b n f) {i : Nat} {v : Int} (hi : i < n) (hv : v = g i) (hg : ∀ j, j < n → j ≠ i → f j = g j) : rowb (w.setCell ⟨b, i, none⟩ (.int .i64 v)) b n g := by
  obtain ⟨cs, t, h, hc⟩ := h
  refine ⟨_, t, h.set i _, fun j hj => ?_⟩
  have hsz : i < cs.size := by
    have := hc i hi
    rcases Nat.lt_or_ge i cs.size with h' | h'
    · exact h'
    · rw [Array.getElem?_eq_none h'] at this; cases this
  by_cases e : j = i
  · subst e; rw [Array.getElem?_setIfInBounds_self_of_lt hsz, hv]
  · rw [Array.getElem?_setIfInBounds_ne (Ne.symm e), hc j hj, hg j hj e]
theorem rowb.setOther {w : World} {b n : Nat} {f : Nat → Int} (h : rowb w b n f) {a : Addr} (ha : b ≠ a.block) (v : Value) : rowb (w.setCell a v) b n f := by
  obtain ⟨cs, t, h, hc⟩ := h; exact ⟨cs, t, h.setOther ha v, hc⟩
theorem rowb.congr {w : World} {b n : Nat} {f g : Nat → Int} (h : rowb w b n f) (hg : ∀ j, j < n → f j = g j) : rowb w b n g := by
  obtain ⟨cs, t, h, hc⟩ := h; exact ⟨cs, t, h, fun j hj => by rw [hc j hj, hg j hj]⟩
end Go.Proofs.Ytkmelddejdikgaa
namespace Go.Proofs.Ytkmelddejdikgaa
open Go.RowKit PM Dt
end Go.Proofs.Ytkmelddejdikgaa
namespace Go.Proofs.Ytkmelddejdikgaa
open Go.RowKit Dt
def mx (x y : Int) : Int := if y > x then y else x
theorem run_max {P : Program} (w : World) (ats : Array TypeId) (ty : TypeId) : ∀ (xs : List Int) (x : Int), (Builtin.max_ ats ty (((x :: xs).map (Value.int .i64)).toArray)).run P w = .ok (.int .i64 (xs.foldl mx x)) w := by
  have key : ∀ (xs : List Int) (x : Int), ((xs.map (Value.int .i64)).foldlM Builtin.max2 (Value.int .i64 x)).run P w = .ok (.int .i64 (xs.foldl mx x)) w := by
    intro xs
    induction xs with
    | nil => intro x; rfl
    | cons y ys ih =>
      intro x
      rw [List.map_cons, List.foldlM_cons, Sem.run_bind]
      have : (Builtin.max2 (Value.int .i64 x) (Value.int .i64 y)).run P w = .ok (.int .i64 (mx x y)) w := rfl
      rw [this, Result.andThen_ok, ih]
      rfl
  intro xs x
  exact key xs x
theorem mx_lt {c : Int} : ∀ (xs : List Int) (x : Int), (xs.foldl mx x < c) ↔ (x < c ∧ ∀ y ∈ xs, y < c)
  | [], x => by simp
  | y :: ys, x => by
    rw [List.foldl_cons, mx_lt ys]
    have : (mx x y < c) ↔ (x < c ∧ y < c) := by unfold mx; split <;> omega
    rw [this]
    simp only [List.mem_cons, forall_eq_or_imp]
    exact ⟨fun ⟨⟨a, b⟩, d⟩ => ⟨a, b, d⟩, fun ⟨a, b, d⟩ => ⟨⟨a, b⟩, d⟩⟩
theorem wpList_max {P : Program} {ops : Array Oper} {rest : List Oper} {o : Oper} {a : Act} {w : World} {Q : Exit → Act → World → Prop} (hg : o.guard = none) {args : Array Operand} {ats : Array TypeId}
    (ho : o.op = Op.call { callee := Callee.builtin Builtin.max, args := args, argTypes := ats }) (xs : List Int) (x M : Int) (hM : xs.foldl mx x = M) (hargs0 : args.toList.map a.eval = (x :: xs).map (Value.int .i64))
    (h : wpList P ops Q rest (a.put o.dst (.int .i64 M)) w) : wpList P ops Q (o :: rest) a w := by
  refine wpList_pure (.int .i64 M) hg ?_ h
  have hargs : args.map a.eval = ((x :: xs).map (Value.int .i64)).toArray := by
    rw [← hargs0]; apply Array.ext'; simp
  have hr := run_max (P := P) w ats o.type xs x
  rw [hM, ← hargs] at hr
  simp [execOp, ho, resolve, invoke, builtin, hr, Result.andThen, DetR]
end Go.Proofs.Ytkmelddejdikgaa
