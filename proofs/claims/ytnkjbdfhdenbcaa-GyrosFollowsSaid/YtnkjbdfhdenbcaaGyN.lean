/-
  The calls of chapter 21, as they lie in memory.
-/
import Derived.Test.YtnkjbdfhdenbcaaFlC
set_option linter.unusedSimpArgs false
set_option linter.unusedVariables false
namespace Go.Proofs.Ytnkjbdfhdenbcaa
open Go.RowKit PM Dt
/-- A call of gyros, as it lies in memory. -/
def mot (x : Bool × (Nat → Int) × (Nat → Int)) : Array Value := #[.bool x.1, .int .i64 (x.2.1 0), .int .i64 (x.2.1 1), .int .i64 (x.2.1 2), .int .i64 (x.2.2 0), .int .i64 (x.2.2 1), .int .i64 (x.2.2 2)]
theorem mot_size (x : Bool × (Nat → Int) × (Nat → Int)) : (mot x).size = 7 := rfl
theorem mot_a (x : Bool × (Nat → Int) × (Nat → Int)) (j : Nat) (hj : j < (vfn x.2.1).size) : (mot x)[1 + j]? = (vfn x.2.1)[j]? := by
  rw [vfn_size] at hj; rw [vfn_get _ hj]
  rcases (show j = 0 ∨ j = 1 ∨ j = 2 by omega) with rfl | rfl | rfl <;> rfl
theorem mot_b (x : Bool × (Nat → Int) × (Nat → Int)) (j : Nat) (hj : j < (vfn x.2.2).size) : (mot x)[4 + j]? = (vfn x.2.2)[j]? := by
  rw [vfn_size] at hj; rw [vfn_get _ hj]
  rcases (show j = 0 ∨ j = 1 ∨ j = 2 by omega) with rfl | rfl | rfl <;> rfl
/-- A call of a filter, as it lies in memory. -/
def lok (x : Bool × (Nat → Int) × (Nat → Int)) : Array Value := #[.bool x.1, .int .i64 (x.2.1 0), .int .i64 (x.2.1 1), .int .i64 (x.2.1 2), .int .i64 (x.2.2 0), .int .i64 (x.2.2 1), .int .i64 (x.2.2 2), .int .i64 (x.2.2 3)]
theorem lok_size (x : Bool × (Nat → Int) × (Nat → Int)) : (lok x).size = 8 := rfl
theorem lok_r (x : Bool × (Nat → Int) × (Nat → Int)) (j : Nat) (hj : j < (vfn x.2.1).size) : (lok x)[1 + j]? = (vfn x.2.1)[j]? := by
  rw [vfn_size] at hj; rw [vfn_get _ hj]
  rcases (show j = 0 ∨ j = 1 ∨ j = 2 by omega) with rfl | rfl | rfl <;> rfl
theorem lok_q (x : Bool × (Nat → Int) × (Nat → Int)) (j : Nat) (hj : j < (qfn x.2.2).size) : (lok x)[4 + j]? = (qfn x.2.2)[j]? := by
  rw [qfn_size] at hj; rw [qfn_get _ hj]
  rcases (show j = 0 ∨ j = 1 ∨ j = 2 ∨ j = 3 by omega) with rfl | rfl | rfl | rfl <;> rfl
theorem lok_rL (x : Bool × (Nat → Int) × (Nat → Int)) (j : Nat) (hj : j < (vfn x.2.1).size) : (lok x).toList[1 + j]? = (vfn x.2.1)[j]? := by
  rw [← lok_r x j hj, Array.getElem?_toList]
theorem lok_qL (x : Bool × (Nat → Int) × (Nat → Int)) (j : Nat) (hj : j < (qfn x.2.2).size) : (lok x).toList[4 + j]? = (qfn x.2.2)[j]? := by
  rw [← lok_q x j hj, Array.getElem?_toList]
theorem mot_aL (x : Bool × (Nat → Int) × (Nat → Int)) (j : Nat) (hj : j < (vfn x.2.1).size) : (mot x).toList[1 + j]? = (vfn x.2.1)[j]? := by
  rw [← mot_a x j hj, Array.getElem?_toList]
theorem mot_bL (x : Bool × (Nat → Int) × (Nat → Int)) (j : Nat) (hj : j < (vfn x.2.2).size) : (mot x).toList[4 + j]? = (vfn x.2.2)[j]? := by
  rw [← mot_b x j hj, Array.getElem?_toList]
/-- The load of a part of what lies in a range. -/
theorem valR_range {P : Program} {op : Oper} {a : Act} {w : World} (ty : TypeId) (x : Operand) (ho : op.op = .load ty x) (b o : Nat) (hx : a.eval x = .pointer (some ⟨b, o, none⟩))
    (C : List Value) (oo j0 : Nat) (hr : w.rangeAt b oo C) (hoo : o = oo + j0) (cs : Array Value) (hc : ∀ j, j < cs.size → C[j0 + j]? = cs[j]?) (d : TypeDesc)
    (hu : P.underlying ty = some d) (hd : d.isRow = true) (hi : (P.info? ty).map (·.size) = some cs.size) {v : Value} (hv : v = .agg cs) : ValR v w ((execOp a.eval op).run P w) := by
  have hr2 : w.rangeAt b o cs.toList := fun j u hj => by
    have h1 : j < cs.toList.length := (List.getElem?_eq_some_iff.1 hj).1
    have h2 : cs[j]? = some u := by simpa using hj
    have h3 := hr (j0 + j) u ((hc j (by simpa using h1)).trans h2)
    rw [hoo, Nat.add_assoc]
    exact h3
  unfold execOp
  simp only [ho, hx, Instr.loadAt, Instr.sureAddr, Sem.run_bind, Sem.run_pure, Result.andThen_ok, run_loadVar_mid w b o ty cs.toList d hr2 hu hd (by simpa using hi)]
  exact ⟨by rw [hv], rfl⟩
theorem range_below {B : Nat} {w w' : World} {b o : Nat} {C : List Value} (h : w.rangeAt b o C) (hb : Below B w w') (hl : b < B) : w'.rangeAt b o C := fun j u hj => by
  rw [hb.cell (p := ⟨b, o + j, none⟩) hl]; exact h j u hj
end Go.Proofs.Ytnkjbdfhdenbcaa
