/-
  Parts of a block: a vector or a quaternion within the block of a struct. No program in sight.
-/
import Derived.Test.YtkmelddejdikgaaQuatB
import Derived.Deep.MidRow
import Derived.Laws.CopyRow
set_option linter.unusedSimpArgs false
set_option linter.unusedVariables false
namespace Go.Proofs.Ytkmelddejdikgaa
open Go.RowKit PM Dt
def over (c : Array Value) : Nat → List Value → Array Value
  | _, [] => c
  | o, v :: l => over (c.setIfInBounds o v) (o + 1) l
theorem setCells_row {b : Nat} {t : TypeId} : ∀ (l : List Value) (c : Array Value) (o : Nat) (w : World), blk w b c t → w.setCells b o l = w.setRow b (over c o l)
  | [], c, o, w, h => by rw [World.setCells, over, setRow_self w b c t _ h]
  | v :: l, c, o, w, h => by
    rw [World.setCells, over, setCells_row l (c.setIfInBounds o v) (o + 1) _ (h.set o v), setCell_eq_setRow w b o c t _ v h, setRow_setRow]
theorem blk.range {w : World} {b o : Nat} {c cs : Array Value} {t : TypeId} (h : blk w b c t) (hc : ∀ j, j < cs.size → c[o + j]? = cs[j]?) : w.rangeAt b o cs.toList := fun j v hv => by
  have hj : j < cs.toList.length := (List.getElem?_eq_some_iff.1 hv).1
  have hv' : cs[j]? = some v := by simpa using hv
  exact h.cellIs ((hc j (by simpa using hj)).trans hv')
theorem blk.there {w : World} {b o n : Nat} {c : Array Value} {t : TypeId} (h : blk w b c t) (hn : o + n ≤ c.size) : w.there b o n := fun j hj => by
  refine ⟨?_, h.free _⟩
  rw [h.cell, Array.getElem?_eq_getElem (by omega)]; rfl
section
variable {P : Program} {ops : Array Oper} {rest : List Oper} {op : Oper} {a : Act} {w : World} {Q : Exit → Act → World → Prop}
theorem wpList_load_part (hw : Region.wanted op (yielded ops a.tmps) = true) (ty : TypeId) (x : Operand) (ho : op.op = .load ty x) (b o : Nat) (hx : a.eval x = .pointer (some ⟨b, o, none⟩))
    (c : Array Value) (t : TypeId) (hg : blk w b c t) (cs : Array Value) (hc : ∀ j, j < cs.size → c[o + j]? = cs[j]?) (d : TypeDesc)
    (hu : P.underlying ty = some d) (hd : d.isRow = true) (hi : (P.info? ty).map (·.size) = some cs.size)
    (h : wpList P ops Q rest (a.put op.dst (.agg cs)) w) : wpList P ops Q (op :: rest) a w :=
  wpList_step fun K hK => by
    rw [if_pos hw]
    exact wp_load_mid ty x ho b o hx cs.toList d (hg.range hc) hu hd (by simpa using hi) (by simpa using hK _ _ h)
end
end Go.Proofs.Ytkmelddejdikgaa
