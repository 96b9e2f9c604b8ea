/-
  Acts on bodies.
-/
import Derived.Test.YtjnocbjngojigaaGreatBdL
import Derived.Test.YtjnocbjngojigaaGreatArg
set_option linter.unusedSimpArgs false
set_option linter.unusedVariables false
namespace Go.Proofs.YtjnocbjngojigaaGreat
open Go.RowKit PM Dt
abbrev ActT := Int × (Nat → Int) × (Nat → Int) × Int
def actc (x : ActT) : Array Value := #[.int .u8 x.1, .int .i64 (x.2.1 0), .int .i64 (x.2.1 1), .int .i64 (x.2.1 2), .int .i64 (x.2.1 3), .int .i64 (x.2.2.1 0), .int .i64 (x.2.2.1 1), .int .i64 (x.2.2.1 2), .int .i64 x.2.2.2]
theorem actc_size (x : ActT) : (actc x).size = 9 := rfl
theorem actc_one (x : ActT) : (actc x).all (·.oneCell') = true := by simp [actc, Value.oneCell']
theorem actc_zero : (#[.int .u8 0, .int .i64 0, .int .i64 0, .int .i64 0, .int .i64 0, .int .i64 0, .int .i64 0, .int .i64 0, .int .i64 0] : Array Value) = actc (0, fun _ => 0, fun _ => 0, 0) := rfl
theorem act_c (y : Int) (c t : Nat → Int) (i : Int) (j : Nat) (hj : j < (qfn c).size) : (actc (y, c, t, i))[1 + j]? = (qfn c)[j]? := by
  rw [qfn_size] at hj
  rw [qfn_get _ hj]
  exact c4 (P := fun j => (actc (y, c, t, i))[1 + j]? = some (.int .i64 (c j))) hj rfl rfl rfl rfl
theorem act_t (y : Int) (c t : Nat → Int) (i : Int) (j : Nat) (hj : j < (vfn t).size) : (actc (y, c, t, i))[5 + j]? = (vfn t)[j]? := by
  rw [vfn_size] at hj
  rw [vfn_get _ hj]
  exact c3 (P := fun j => (actc (y, c, t, i))[5 + j]? = some (.int .i64 (t j))) hj rfl rfl rfl
theorem act_l (x : ActT) (j : Nat) (hj : j < (actc x).size) : (actc x).toList[0 + j]? = (actc x)[j]? := by rw [Nat.zero_add, Array.getElem?_toList]
def stc (x : (Nat → Int) × (Nat → Int) × (Nat → Int) × Int) : Array Value := rbc ⟨x.1, x.2.1, x.2.2.1, x.2.2.2⟩
theorem valR_range {P : Program} {op : Oper} {a : Act} {w : World} (ty : TypeId) (x : Operand) (ho : op.op = .load ty x) (b o : Nat) (hx : a.eval x = .pointer (some ⟨b, o, none⟩))
    (C : List Value) (oo j0 : Nat) (hr : w.rangeAt b oo C) (hoo : o = oo + j0) (cs : Array Value) (hc : ∀ j, j < cs.size → C[j0 + j]? = cs[j]?) (d : TypeDesc)
    (hu : P.underlying ty = some d) (hd : d.isRow = true) (hi : (P.info? ty).map (·.size) = some cs.size) {v : Value} (hv : v = .agg cs) : ValR v w ((execOp a.eval op).run P w) := by
  have hr2 : w.rangeAt b o cs.toList := fun j u hj => by
    have h1 : j < cs.toList.length := (List.getElem?_eq_some_iff.1 hj).1
    have h2 : cs[j]? = some u := by simpa using hj
    have h3 := hr (j0 + j) u ((hc j (by simpa using h1)).trans h2)
    rw [hoo, Nat.add_assoc]
    exact h3
  unfold execOp
  simp only [ho, hx, Instr.loadAt, Instr.sureAddr, Sem.run_bind, Sem.run_pure, Result.andThen_ok, run_loadVar_mid w b o ty cs.toList d hr2 hu hd (by simpa using hi)]
  exact ⟨by rw [hv], rfl⟩
theorem range_below {B : Nat} {w w' : World} {b o : Nat} {C : List Value} (h : w.rangeAt b o C) (hb : Below B w w') (hl : b < B) : w'.rangeAt b o C := fun j u hj => by
  rw [hb.cell (p := ⟨b, o + j, none⟩) hl]; exact h j u hj
theorem BI.fail {X : BSt} (k : BI X) (i : Int) : BI (failX X i) := by
  refine ⟨k.q, k.v, k.t, ?_⟩
  show SI (failH X.h X.f i) (failF X.f i)
  unfold failH failF
  split
  · rename_i h
    have hi : 0 ≤ i ∧ i ≤ 3 := by
      unfold failE at h
      by_cases h1 : i < 0
      · simp [h1] at h
      · by_cases h2 : 3 < i
        · simp [h1, h2] at h
        · omega
    obtain ⟨j, rfl⟩ : ∃ j : Nat, i = j := ⟨i.toNat, by omega⟩
    rw [Int.toNat_natCast]
    exact k.s.fail (by omega)
  · exact k.s
end Go.Proofs.YtjnocbjngojigaaGreat
