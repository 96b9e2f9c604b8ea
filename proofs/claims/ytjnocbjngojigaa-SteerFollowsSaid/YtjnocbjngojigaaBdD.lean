/-
  Acts on bodies.
-/
import Derived.Test.YtjnocbjngojigaaBdC
import Derived.Test.YtjnocbjngojigaaBdP
import Derived.Test.YtjnocbjngojigaaLawVec
import Derived.Test.YtjnocbjngojigaaQEq
import Derived.Test.YtjnocbjngojigaaArg
set_option linter.unusedSimpArgs false
set_option linter.unusedVariables false
namespace Go.Proofs.Ytjnocbjngojigaa
open Go.RowKit PM Dt
def stc (x : (Nat → Int) × (Nat → Int) × (Nat → Int) × Int) : Array Value := rbc ⟨x.1, x.2.1, x.2.2.1, x.2.2.2⟩
theorem valR_range {P : Program} {op : Oper} {a : Act} {w : World} (ty : TypeId) (x : Operand) (ho : op.op = .load ty x) (b o : Nat) (hx : a.eval x = .pointer (some ⟨b, o, none⟩))
    (C : List Value) (oo j0 : Nat) (hr : w.rangeAt b oo C) (hoo : o = oo + j0) (cs : Array Value) (hc : ∀ j, j < cs.size → C[j0 + j]? = cs[j]?) (d : TypeDesc)
    (hu : P.underlying ty = some d) (hd : d.isRow = true) (hi : (P.info? ty).map (·.size) = some cs.size) {v : Value} (hv : v = .agg cs) : ValR v w ((execOp a.eval op).run P w) := by
  have hr2 : w.rangeAt b o cs.toList := fun j u hj => by
    have h1 : j < cs.toList.length := (List.getElem?_eq_some_iff.1 hj).1
    have h2 : cs[j]? = some u := by simpa using hj
    have h3 := hr (j0 + j) u ((hc j (by simpa using h1)).trans h2)
    rw [hoo, Nat.add_assoc]
    exact h3
  unfold execOp
  simp only [ho, hx, Instr.loadAt, Instr.sureAddr, Sem.run_bind, Sem.run_pure, Result.andThen_ok, run_loadVar_mid w b o ty cs.toList d hr2 hu hd (by simpa using hi)]
  exact ⟨by rw [hv], rfl⟩
theorem range_below {B : Nat} {w w' : World} {b o : Nat} {C : List Value} (h : w.rangeAt b o C) (hb : Below B w w') (hl : b < B) : w'.rangeAt b o C := fun j u hj => by
  rw [hb.cell (p := ⟨b, o + j, none⟩) hl]; exact h j u hj
theorem BI.fail {X : BSt} (k : BI X) (i : Int) : BI (failX X i) := by
  refine ⟨k.q, k.v, k.t, ?_⟩
  show SI (failH X.h X.f i) (failF X.f i)
  unfold failH failF
  split
  · rename_i h
    have hi : 0 ≤ i ∧ i ≤ 3 := by
      unfold failE at h
      by_cases h1 : i < 0
      · simp [h1] at h
      · by_cases h2 : 3 < i
        · simp [h1, h2] at h
        · omega
    obtain ⟨j, rfl⟩ : ∃ j : Nat, i = j := ⟨i.toNat, by omega⟩
    rw [Int.toNat_natCast]
    exact k.s.fail (by omega)
  · exact k.s
end Go.Proofs.Ytjnocbjngojigaa
