/-
  Controls, plainly: what they stay within. No function of the program is walked here.
-/
import Derived.Test.YtkmelddejdikgaaGreatStE
import Derived.Test.YtkmelddejdikgaaGreatLenQ
import Derived.Test.YtkmelddejdikgaaGreatBdP
set_option linter.unusedSimpArgs false
set_option linter.unusedVariables false
namespace Go.Proofs.YtkmelddejdikgaaGreat
open Go.RowKit PM Dt
theorem z0 {N : Int} (h : 0 ≤ N) : -N ≤ (0 : Int) ∧ (0 : Int) ≤ N := by omega
structure SSI (X : SSt) : Prop where
 d : ∀ i, i < 3 → -4194304 ≤ X.D i ∧ X.D i ≤ 4194304
 a : ∀ i, i < 3 → -1073741824 ≤ X.A i ∧ X.A i ≤ 1073741824
theorem clampR_two (x : Int) : clampV x (-262144) 262144 = x ∨ (clampV x (-262144) 262144 = 262144 ∧ 262144 < x) ∨ (clampV x (-262144) 262144 = -262144 ∧ x < -262144) := by
 unfold clampV; split <;> (try split) <;> omega
theorem stD_bd {X : SSt} (k : SSI X) (a : Bool) {To : Nat → Int} (hT : ∀ i, i < 3 → -4194304 ≤ To i ∧ To i ≤ 4194304) {i : Nat} (hi : i < 3) :
 (-4194304 ≤ stD a X To i ∧ stD a X To i ≤ 4194304) ∧ -262144 ≤ stD a X To i - X.D i ∧ stD a X To i - X.D i ≤ 262144 := by
 have h1 := k.d i hi
 have h2 := hT i hi
 unfold stD
 cases a
 ·simp; omega
 ·have h3 := clampR_bd (To i - X.D i)
  have h4 := clampR_two (To i - X.D i)
  show (-4194304 ≤ X.D i + clampV (To i - X.D i) (-262144) 262144 ∧ X.D i + clampV (To i - X.D i) (-262144) 262144 ≤ 4194304) ∧ -262144 ≤ X.D i + clampV (To i - X.D i) (-262144) 262144 - X.D i ∧ X.D i + clampV (To i - X.D i) (-262144) 262144 - X.D i ≤ 262144
  omega
theorem SSI.step {X : SSt} (k : SSI X) (V : SeT) {A To : Nat → Int} (hA : ∀ i, i < 3 → -1073741824 ≤ A i ∧ A i ≤ 1073741824) (hT : ∀ i, i < 3 → -4194304 ≤ To i ∧ To i ≤ 4194304) : SSI (stX X V A To) :=
 ⟨fun i hi => (stD_bd k _ hT hi).1, hA⟩
theorem vun_le {f : Nat → Int} : ∀ i, i < 3 → -1073741824 ≤ vunF f i ∧ vunF f i ≤ 1073741824 := fun i hi => by
 cases hk : okV f with
 | false => have : vunF f i = 0 := by unfold vunF; rw [hk]; rfl
            omega
 | true =>
   cases hz : zV f with
   | true => have : vunF f i = 0 := by unfold vunF; rw [hk, hz]; rfl
             omega
   | false =>
     obtain ⟨_, _, _, _, h⟩ := vun_core hk hz
     have n0 := sq_nn (vunF f 0); have n1 := sq_nn (vunF f 1); have n2 := sq_nn (vunF f 2)
     have : vunF f i * vunF f i < 1073741825 * 1073741825 := by
      rcases (show i = 0 ∨ i = 1 ∨ i = 2 by omega) with rfl | rfl | rfl <;> omega
     have := sqv_lt (a := vunF f i) (b := 1073741825) (by decide) this
     omega
theorem acr_le (S : Nat → Int) : ∀ i, i < 3 → -1073741824 ≤ acrF S i ∧ acrF S i ≤ 1073741824 := fun i hi => by
 unfold acrF
 split
 ·rcases (show i = 0 ∨ i = 1 ∨ i = 2 by omega) with rfl | rfl | rfl <;> decide
 ·exact vun_le i hi
theorem sunA_le {X : SSt} (k : SSI X) (V : SeT) : ∀ i, i < 3 → -1073741824 ≤ sunAx X V i ∧ sunAx X V i ≤ 1073741824 := fun i hi => by
 unfold sunAx sunA
 split
 ·exact acr_le _ i hi
 ·unfold sunA1
  split
  ·exact z0 (by decide)
  ·exact k.a i hi
theorem scale_le {A : Nat → Int} (hA : ∀ i, i < 3 → -1073741824 ≤ A i ∧ A i ≤ 1073741824) : ∀ i, i < 3 → -4194304 ≤ vscaleF A 4194304 i ∧ vscaleF A 4194304 i ≤ 4194304 := fun i hi => by
 unfold vscaleF eachF
 split
 ·split
  ·have := hA i hi
   show -4194304 ≤ ratioV (A i) 4194304 1073741824 ∧ ratioV (A i) 4194304 1073741824 ≤ 4194304
   unfold ratioV
   rw [if_neg (by decide)]
   have e : ratioQ (A i) 4194304 1073741824 = (2 * (A i * 4194304) + 1073741824) / (2 * 1073741824) := by
    unfold ratioQ nearest; rw [if_neg (by decide)]
   unfold fitV
   rw [e]
   split <;> omega
  ·exact z0 (by decide)
 ·exact z0 (by decide)
theorem sunT_le {X : SSt} (k : SSI X) (V : SeT) : ∀ i, i < 3 → -4194304 ≤ sunT X V i ∧ sunT X V i ≤ 4194304 := scale_le (sunA_le k V)
theorem ptTo_le (L : Nat → Int) : ∀ i, i < 3 → -4194304 ≤ ptTo L i ∧ ptTo L i ≤ 4194304 := fun i hi => by
 unfold ptTo
 by_cases h : okL (ptV L) 4194304
 ·exact (lim_core h).1 i hi
 ·unfold limF; rw [if_neg h]; exact z0 (by decide)
theorem bet_le {f g : Nat → Int} (hI : ∀ i, i < 4 → I64 (f i)) (hJ : ∀ i, i < 4 → I64 (g i)) : ∀ i, i < 4 → -1099511627776 ≤ betF f g i ∧ betF f g i ≤ 1099511627776 := fun i hi => by
 unfold betF
 cases hf : validQ f with
 | false => exact z0 (by decide)
 | true =>
   cases hg : validQ g with
   | false => exact z0 (by decide)
   | true =>
     obtain ⟨k1, _, u1⟩ := valid_nn hI hf
     obtain ⟨k2, _, u2⟩ := valid_nn hJ hg
     have c1 := fun j (hj : j < 4) => vcomp u1 hj
     have c2 := fun j (hj : j < 4) => vcomp u2 hj
     have w : ∀ j, j < 4 → wrap64 (-f j) = -f j := fun j hj => by have := c1 j hj; unfold wrap64; omega
     have c3 : ∀ j, j < 4 → -1073741828 ≤ conjF f j ∧ conjF f j ≤ 1073741828 := fun j hj => by
      have := c1 j hj
      unfold conjF
      split
      ·exact c1 0 (by omega)
      ·rw [w j hj]; omega
     have kc : okQ (conjF f) = true := (okQ_iff _).2 fun j hj => (vb_iff _).2 (by have := c3 j hj; omega)
     have key : ∀ i, i < 4 → -1099511627776 ≤ qprodF (conjF f) g i ∧ qprodF (conjF f) g i ≤ 1099511627776 := fun i hi => by
      obtain ⟨e, he, l, u⟩ := prod_err kc k2 hi
      have p := fun a (ha : a < 4) b (hb : b < 4) => bmul (P := 1073741828) (R := 1073741828) (c3 a ha).1 (c3 a ha).2 (c2 b hb).1 (c2 b hb).2
      generalize conjF f = C at *
      have hp : -8589934592000000000 ≤ pe C g i ∧ pe C g i ≤ 8589934592000000000 := by
       rcases (show i = 0 ∨ i = 1 ∨ i = 2 ∨ i = 3 by omega) with rfl | rfl | rfl | rfl
       ·have := p 0 (by omega) 0 (by omega); have := p 1 (by omega) 1 (by omega); have := p 2 (by omega) 2 (by omega); have := p 3 (by omega) 3 (by omega)
        simp only [pe]; omega
       ·have := p 0 (by omega) 1 (by omega); have := p 1 (by omega) 0 (by omega); have := p 2 (by omega) 3 (by omega); have := p 3 (by omega) 2 (by omega)
        simp only [pe]; omega
       ·have := p 0 (by omega) 2 (by omega); have := p 1 (by omega) 3 (by omega); have := p 2 (by omega) 0 (by omega); have := p 3 (by omega) 1 (by omega)
        simp only [pe]; omega
       ·have := p 0 (by omega) 3 (by omega); have := p 1 (by omega) 2 (by omega); have := p 2 (by omega) 1 (by omega); have := p 3 (by omega) 0 (by omega)
        simp only [pe]; omega
      omega
     show -1099511627776 ≤ betX f g i ∧ betX f g i ≤ 1099511627776
     unfold betX
     split
     ·have := key i hi; unfold negF; omega
     ·exact key i hi
def restX (X : SSt) (V : SeT) : SSt := if senseOk V then stX X V (fun _ => 0) (fun _ => 0) else X
def restC (X : SSt) (V : SeT) : Nat → Int := if senseOk V then stC X V (fun _ => 0) else fun _ => 0
def sunX (X : SSt) (V : SeT) : SSt := if senseOk V then stX X V (sunAx X V) (sunT X V) else X
def sunC (X : SSt) (V : SeT) : Nat → Int := if senseOk V then stC X V (sunT X V) else fun _ => 0
def ptOk (V : SeT) (q : Nat → Int) : Bool := senseOk V && decide (betE V.att q = 0)
def pointX (X : SSt) (V : SeT) (q : Nat → Int) : SSt := if ptOk V q then stX X V (fun _ => 0) (ptTo (betF V.att q)) else X
def pointC (X : SSt) (V : SeT) (q : Nat → Int) : Nat → Int := if ptOk V q then stC X V (ptTo (betF V.att q)) else fun _ => 0
def okE (b : Bool) : Int := if b then 0 else 2
def StepS (X Y : SSt) : Prop := SSI Y ∧ ∀ i, i < 3 → (-4194304 ≤ Y.D i ∧ Y.D i ≤ 4194304) ∧ -262144 ≤ Y.D i - X.D i ∧ Y.D i - X.D i ≤ 262144
theorem StepS.same {X : SSt} (k : SSI X) : StepS X X := ⟨k, fun i hi => ⟨k.d i hi, by omega, by omega⟩⟩
theorem StepS.step {X : SSt} (k : SSI X) (V : SeT) {A To : Nat → Int} (hA : ∀ i, i < 3 → -1073741824 ≤ A i ∧ A i ≤ 1073741824) (hT : ∀ i, i < 3 → -4194304 ≤ To i ∧ To i ≤ 4194304) : StepS X (stX X V A To) :=
 ⟨k.step V hA hT, fun i hi => stD_bd k _ hT hi⟩
theorem z3 : ∀ i, i < 3 → (-1073741824 : Int) ≤ (fun _ => 0 : Nat → Int) i ∧ (fun _ => 0 : Nat → Int) i ≤ 1073741824 := fun i hi => z0 (by decide)
theorem restX_S {X : SSt} (k : SSI X) (V : SeT) : StepS X (restX X V) := by
 unfold restX; split
 ·exact .step k V z3 (fun i hi => z0 (by decide))
 ·exact .same k
theorem sunX_S {X : SSt} (k : SSI X) (V : SeT) : StepS X (sunX X V) := by
 unfold sunX; split
 ·exact .step k V (sunA_le k V) (sunT_le k V)
 ·exact .same k
theorem pointX_S {X : SSt} (k : SSI X) (V : SeT) (q : Nat → Int) : StepS X (pointX X V q) := by
 unfold pointX; split
 ·exact .step k V z3 (ptTo_le _)
 ·exact .same k
theorem same_row {b : Nat} {w w' : World} {c : Array Value} {t : TypeId} (hg : blk w b c t) (h : Below w.heap.size w w') : Below w.heap.size (w.setRow b c) w' := by
 rw [setRow_self w b c t _ hg]; exact h
theorem rest_row (X : SSt) (V : SeT) (b : Nat) (w : World) (hg : blk w b (ssc X) 65) (k : SSI X) : Calls Tryz.prog 7 #[.pointer (some ⟨b, 0, none⟩), .agg (sec V)] w fun e w' => e = .returned (.tuple #[.agg (qfn (restC X V)), .int .i64 (okE (senseOk V))]) ∧ Below w.heap.size (w.setRow b (ssc (restX X V))) w' := by
 unfold restC restX okE
 cases hk : senseOk V with
 | true => exact (trest_ok X V b w hg hk k.d).mono fun e w' ⟨he, hb, hs⟩ => ⟨he, hs.toRow hg hb⟩
 | false => exact (trest_no X V b w hg hk).mono fun e w' ⟨he, hb⟩ => ⟨he, same_row hg hb⟩
theorem sun_row (X : SSt) (V : SeT) (b : Nat) (w : World) (hg : blk w b (ssc X) 65) (k : SSI X) : Calls Tryz.prog 12 #[.pointer (some ⟨b, 0, none⟩), .agg (sec V)] w fun e w' => e = .returned (.tuple #[.agg (qfn (sunC X V)), .int .i64 (okE (senseOk V))]) ∧ Below w.heap.size (w.setRow b (ssc (sunX X V))) w' := by
 unfold sunC sunX okE
 cases hk : senseOk V with
 | true => exact (tsun_ok X V b w hg hk k.d (fun i hi => by have := sunT_le k V i hi; omega)).mono fun e w' ⟨he, hb, hs⟩ => ⟨he, hs.toRow hg hb⟩
 | false => exact (tsun_no X V b w hg hk).mono fun e w' ⟨he, hb⟩ => ⟨he, same_row hg hb⟩
theorem betE_2 {f g : Nat → Int} (h : ¬ betE f g = 0) : betE f g = 2 := by
 unfold betE at h ⊢
 by_cases hc : (validQ f && validQ g) = true
 ·rw [if_pos hc] at h; exact absurd rfl h
 ·rw [if_neg hc]
theorem point_row (X : SSt) (V : SeT) (q : Nat → Int) (b : Nat) (w : World) (hg : blk w b (ssc X) 65) (k : SSI X) (ha : ∀ i, i < 4 → I64 (V.att i)) (hq : ∀ i, i < 4 → I64 (q i)) : Calls Tryz.prog 9 #[.pointer (some ⟨b, 0, none⟩), .agg (sec V), .agg (qfn q)] w fun e w' => e = .returned (.tuple #[.agg (qfn (pointC X V q)), .int .i64 (okE (ptOk V q))]) ∧ Below w.heap.size (w.setRow b (ssc (pointX X V q))) w' := by
 unfold pointC pointX okE ptOk
 by_cases hE : betE V.att q = 0
 ·rw [decide_eq_true hE]
  cases hk : senseOk V with
  | true => exact (tpoint_ok X V q b w hg ha hq hk k.d hE (bet_le ha hq) (fun i hi => by have := ptTo_le (betF V.att q) i hi; omega)).mono fun e w' ⟨he, hb, hs⟩ => ⟨he, hs.toRow hg hb⟩
  | false => exact (tpoint_no X V q b w hg ha hq hk hE).mono fun e w' ⟨he, hb⟩ => ⟨he, same_row hg hb⟩
 ·rw [decide_eq_false hE, Bool.and_false]
  exact (tpoint_bad X V q b w hg ha hq (betE_2 hE)).mono fun e w' ⟨he, hb⟩ => ⟨he, same_row hg hb⟩
end Go.Proofs.YtkmelddejdikgaaGreat
