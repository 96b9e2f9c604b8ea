/-
  The builtin max over integers.
-/
import Derived.Test.YthkklhfnmodpnaaSeq
set_option linter.unusedSimpArgs false
set_option linter.unusedVariables false
namespace Go.Proofs.Ythkklhfnmodpnaa
open Go.RowKit Dt
def mx (x y : Int) : Int := if y > x then y else x
theorem run_max {P : Program} (w : World) (ats : Array TypeId) (ty : TypeId) : ∀ (xs : List Int) (x : Int), (Builtin.max_ ats ty (((x :: xs).map (Value.int .i64)).toArray)).run P w = .ok (.int .i64 (xs.foldl mx x)) w := by
  have key : ∀ (xs : List Int) (x : Int), ((xs.map (Value.int .i64)).foldlM Builtin.max2 (Value.int .i64 x)).run P w = .ok (.int .i64 (xs.foldl mx x)) w := by
    intro xs
    induction xs with
    | nil => intro x; rfl
    | cons y ys ih =>
      intro x
      rw [List.map_cons, List.foldlM_cons, Sem.run_bind]
      have : (Builtin.max2 (Value.int .i64 x) (Value.int .i64 y)).run P w = .ok (.int .i64 (mx x y)) w := rfl
      rw [this, Result.andThen_ok, ih]
      rfl
  intro xs x
  exact key xs x
theorem mx_lt {c : Int} : ∀ (xs : List Int) (x : Int), (xs.foldl mx x < c) ↔ (x < c ∧ ∀ y ∈ xs, y < c)
  | [], x => by simp
  | y :: ys, x => by
    rw [List.foldl_cons, mx_lt ys]
    have : (mx x y < c) ↔ (x < c ∧ y < c) := by unfold mx; split <;> omega
    rw [this]
    simp only [List.mem_cons, forall_eq_or_imp]
    exact ⟨fun ⟨⟨a, b⟩, d⟩ => ⟨a, b, d⟩, fun ⟨a, b, d⟩ => ⟨⟨a, b⟩, d⟩⟩
theorem wpList_max {P : Program} {ops : Array Oper} {rest : List Oper} {o : Oper} {a : Act} {w : World} {Q : Exit → Act → World → Prop} (hg : o.guard = none) {args : Array Operand} {ats : Array TypeId}
    (ho : o.op = Op.call { callee := Callee.builtin Builtin.max, args := args, argTypes := ats }) (xs : List Int) (x M : Int) (hM : xs.foldl mx x = M) (hargs0 : args.toList.map a.eval = (x :: xs).map (Value.int .i64))
    (h : wpList P ops Q rest (a.put o.dst (.int .i64 M)) w) : wpList P ops Q (o :: rest) a w := by
  refine wpList_pure (.int .i64 M) hg ?_ h
  have hargs : args.map a.eval = ((x :: xs).map (Value.int .i64)).toArray := by
    rw [← hargs0]; apply Array.ext'; simp
  have hr := run_max (P := P) w ats o.type xs x
  rw [hM, ← hargs] at hr
  simp [execOp, ho, resolve, invoke, builtin, hr, Result.andThen, DetR]
end Go.Proofs.Ythkklhfnmodpnaa
