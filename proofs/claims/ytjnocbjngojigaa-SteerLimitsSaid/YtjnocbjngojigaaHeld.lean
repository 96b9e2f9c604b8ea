/-
  Regions that draw their order, under a condition on the world. No program in sight.
-/
import Derived.Test.YtjnocbjngojigaaGyA
import Derived.OrdersHeld
set_option linter.unusedSimpArgs false
set_option linter.unusedVariables false
namespace Go.Proofs.Ytjnocbjngojigaa
open Go.RowKit PM Dt
/-- The operation gives v and leaves the world as it is. -/
def ValR (v : Value) (w : World) : Result Next → Prop
  | .ok (.value u) w' => u = v ∧ w' = w
  | _ => False
theorem ValR.eq {v : Value} {w : World} {r : Result Next} (h : ValR v w r) : r = .ok (.value v) w := by
  cases r with
  | ok n w' => cases n <;> first | exact h.elim | (obtain ⟨rfl, rfl⟩ := h; rfl)
  | halt x w' => exact h.elim
/-- What has come up, with all that it waits for. -/
def Closed (ops : Array Oper) (listed : Array Bool) : Prop :=
  ∀ j oj, ops[j]? = some oj → listed.getD j false = true → ∀ d ∈ oj.after, Region.binds .any d = true → listed.getD d.on false = true
theorem Closed.set {ops : Array Oper} {listed : Array Bool} {i : Nat} (h : Closed ops listed) (hr : i ∈ Region.ready .any ops listed) : Closed ops (listed.setIfInBounds i true) := by
  intro j oj hj hl d hd hb
  refine getD_set_true ?_
  by_cases hij : i = j
  · subst hij
    obtain ⟨_, o, ho, hall⟩ := mem_ready.1 hr
    rw [hj] at ho; cases ho
    exact hall d hd hb
  · rw [getD_set_ne false hij] at hl
    exact h j oj hj hl d hd hb
section
variable {P : Program} {S : World → Prop} {Q : Exit → Act → World → Prop} {e : Nat}
/-- S holds as long as e has not come up. -/
def Ge (S : World → Prop) (e : Nat) (listed : Array Bool) (w : World) : Prop := listed.getD e false = false → S w
theorem Ge.set {i : Nat} {listed : Array Bool} {w : World} (hie : i ≠ e) : Ge S e (listed.setIfInBounds i true) w ↔ Ge S e listed w := by
  unfold Ge; rw [getD_set_ne false hie]
/-! ### The moves -/
/-- The load of a part of a block. -/
theorem valR_part {op : Oper} {a : Act} {w : World} (ty : TypeId) (x : Operand) (ho : op.op = .load ty x) (b o : Nat) (hx : a.eval x = .pointer (some ⟨b, o, none⟩))
    (c : Array Value) (t : TypeId) (hg : blk w b c t) (cs : Array Value) (hc : ∀ j, j < cs.size → c[o + j]? = cs[j]?) (d : TypeDesc)
    (hu : P.underlying ty = some d) (hd : d.isRow = true) (hi : (P.info? ty).map (·.size) = some cs.size) {v : Value} (hv : v = .agg cs) : ValR v w ((execOp a.eval op).run P w) := by
  unfold execOp
  simp only [ho, hx, Instr.loadAt, Instr.sureAddr, Sem.run_bind, Sem.run_pure, Result.andThen_ok, run_loadVar_mid w b o ty cs.toList d (hg.range hc) hu hd (by simpa using hi)]
  exact ⟨by rw [hv], rfl⟩
theorem valR_row {op : Oper} {a : Act} {w : World} (ty : TypeId) (x : Operand) (ho : op.op = .load ty x) (b : Nat) (hx : a.eval x = .pointer (some ⟨b, 0, none⟩))
    (c : Array Value) (t : TypeId) (hg : blk w b c t) (d : TypeDesc)
    (hu : P.underlying ty = some d) (hd : d.isRow = true) (hi : (P.info? ty).map (·.size) = some c.size) {v : Value} (hv : v = .agg c) : ValR v w ((execOp a.eval op).run P w) :=
  valR_part ty x ho b 0 hx c t hg c (fun j _ => by rw [Nat.zero_add]) d hu hd hi hv
end
end Go.Proofs.Ytjnocbjngojigaa
