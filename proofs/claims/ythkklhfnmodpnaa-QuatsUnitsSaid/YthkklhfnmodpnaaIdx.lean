/-
  A component of an array that is held by value.
-/
import Derived.ChangeKeysEq
import Derived.WalkKit
import Derived.Handy
namespace Go.Proofs.Ythkklhfnmodpnaa.Dt
open Go Go.RowKit
section
variable {P : Program}
theorem run_index_cell {t e : TypeId} {n i : Nat} {cs : Array Value} {v : Value} {d : TypeDesc} {inf : TypeInfo} (ht : P.underlying t = some (.array n e)) (he : P.underlying e = some d)
    (hd : (match d with | .struct _ | .array _ _ => true | _ => false) = false) (hs : P.info? e = some inf) (hc : P.cellsOf e = 1) (hi : i < n) (hv : cs[i]? = some v) (w : World) : (Instr.index t (.agg cs) (.int .i64 i)).run P w = .ok v w := by
  have ha : ∀ w, (isAgg e).run P w = .ok false w := fun w => by cases d <;> simp_all [isAgg, run_underlying he]
  have hz : ∀ w, (sizeOf e).run P w = .ok 1 w := fun w => by rw [run_sizeOf w hs, hc]
  simp [Instr.index, asIntOf, run_underlying ht, hi, hz, part, ha, hv]
theorem wpList_index {ops : Array Oper} {rest : List Oper} {o : Oper} {a : Act} {w : World} {Q : Exit → Act → World → Prop} (hw : Region.wanted o (yielded ops a.tmps) = true) (t : TypeId) (x y : Operand) (ho : o.op = .index t x y)
    (cs : Array Value) (hx : a.eval x = .agg cs) (i : Nat) (z : Int) (hz : z = i) (hy : a.eval y = .int .i64 z) (v : Value) (h1 : ∀ w, (Instr.index t (.agg cs) (.int .i64 (i : Nat))).run P w = .ok v w)
    (h : wpList P ops Q rest (a.put o.dst v) w) : wpList P ops Q (o :: rest) a w :=
  wpList_step fun K hK => by
    rw [if_pos hw]
    subst hz
    unfold Oper.wp execOp
    simp only [ho, hx, hy, Sem.run_bind, h1, Result.andThen_ok, Sem.run_pure]
    exact hK _ _ h
end
end Go.Proofs.Ythkklhfnmodpnaa.Dt
