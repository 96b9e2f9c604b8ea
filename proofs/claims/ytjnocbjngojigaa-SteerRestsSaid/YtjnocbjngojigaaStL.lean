/-
  Controls, plainly: what they stay within. No function of the program is walked here.
-/
import Derived.Test.YtjnocbjngojigaaStE
import Derived.Test.YtjnocbjngojigaaLenQ
import Derived.Test.YtjnocbjngojigaaBdP
set_option linter.unusedSimpArgs false
set_option linter.unusedVariables false
namespace Go.Proofs.Ytjnocbjngojigaa
open Go.RowKit PM Dt
theorem z0 {N : Int} (h : 0 ≤ N) : -N ≤ (0 : Int) ∧ (0 : Int) ≤ N := by omega
structure SSI (X : SSt) : Prop where
  d : ∀ i, i < 3 → -4194304 ≤ X.D i ∧ X.D i ≤ 4194304
  a : ∀ i, i < 3 → -1073741824 ≤ X.A i ∧ X.A i ≤ 1073741824
theorem clampR_two (x : Int) : clampV x (-262144) 262144 = x ∨ (clampV x (-262144) 262144 = 262144 ∧ 262144 < x) ∨ (clampV x (-262144) 262144 = -262144 ∧ x < -262144) := by
  unfold clampV; split <;> (try split) <;> omega
theorem stD_bd {X : SSt} (k : SSI X) (a : Bool) {To : Nat → Int} (hT : ∀ i, i < 3 → -4194304 ≤ To i ∧ To i ≤ 4194304) {i : Nat} (hi : i < 3) :
    (-4194304 ≤ stD a X To i ∧ stD a X To i ≤ 4194304) ∧ -262144 ≤ stD a X To i - X.D i ∧ stD a X To i - X.D i ≤ 262144 := by
  have h1 := k.d i hi
  have h2 := hT i hi
  unfold stD
  cases a
  · simp; omega
  · have h3 := clampR_bd (To i - X.D i)
    have h4 := clampR_two (To i - X.D i)
    show (-4194304 ≤ X.D i + clampV (To i - X.D i) (-262144) 262144 ∧ X.D i + clampV (To i - X.D i) (-262144) 262144 ≤ 4194304) ∧ -262144 ≤ X.D i + clampV (To i - X.D i) (-262144) 262144 - X.D i ∧ X.D i + clampV (To i - X.D i) (-262144) 262144 - X.D i ≤ 262144
    omega
theorem SSI.step {X : SSt} (k : SSI X) (V : SeT) {A To : Nat → Int} (hA : ∀ i, i < 3 → -1073741824 ≤ A i ∧ A i ≤ 1073741824) (hT : ∀ i, i < 3 → -4194304 ≤ To i ∧ To i ≤ 4194304) : SSI (stX X V A To) :=
  ⟨fun i hi => (stD_bd k _ hT hi).1, hA⟩
def restX (X : SSt) (V : SeT) : SSt := if senseOk V then stX X V (fun _ => 0) (fun _ => 0) else X
def restC (X : SSt) (V : SeT) : Nat → Int := if senseOk V then stC X V (fun _ => 0) else fun _ => 0
def okE (b : Bool) : Int := if b then 0 else 2
/-- What a call may do to what is commanded. -/
def StepS (X Y : SSt) : Prop := SSI Y ∧ ∀ i, i < 3 → (-4194304 ≤ Y.D i ∧ Y.D i ≤ 4194304) ∧ -262144 ≤ Y.D i - X.D i ∧ Y.D i - X.D i ≤ 262144
theorem StepS.same {X : SSt} (k : SSI X) : StepS X X := ⟨k, fun i hi => ⟨k.d i hi, by omega, by omega⟩⟩
theorem StepS.step {X : SSt} (k : SSI X) (V : SeT) {A To : Nat → Int} (hA : ∀ i, i < 3 → -1073741824 ≤ A i ∧ A i ≤ 1073741824) (hT : ∀ i, i < 3 → -4194304 ≤ To i ∧ To i ≤ 4194304) : StepS X (stX X V A To) :=
  ⟨k.step V hA hT, fun i hi => stD_bd k _ hT hi⟩
theorem z3 : ∀ i, i < 3 → (-1073741824 : Int) ≤ (fun _ => 0 : Nat → Int) i ∧ (fun _ => 0 : Nat → Int) i ≤ 1073741824 := fun i hi => z0 (by decide)
theorem restX_S {X : SSt} (k : SSI X) (V : SeT) : StepS X (restX X V) := by
  unfold restX; split
  · exact .step k V z3 (fun i hi => z0 (by decide))
  · exact .same k
theorem same_row {b : Nat} {w w' : World} {c : Array Value} {t : TypeId} (hg : blk w b c t) (h : Below w.heap.size w w') : Below w.heap.size (w.setRow b c) w' := by
  rw [setRow_self w b c t _ hg]; exact h
theorem rest_row (X : SSt) (V : SeT) (b : Nat) (w : World) (hg : blk w b (ssc X) 56) (k : SSI X) : Calls Try.prog 22 #[.pointer (some ⟨b, 0, none⟩), .agg (sec V)] w fun e w' => e = .returned (.tuple #[.agg (qfn (restC X V)), .int .i64 (okE (senseOk V))]) ∧ Below w.heap.size (w.setRow b (ssc (restX X V))) w' := by
  unfold restC restX okE
  cases hk : senseOk V with
  | true => exact (trest_ok X V b w hg hk k.d).mono fun e w' ⟨he, hb, hs⟩ => ⟨he, hs.toRow hg hb⟩
  | false => exact (trest_no X V b w hg hk).mono fun e w' ⟨he, hb⟩ => ⟨he, same_row hg hb⟩
end Go.Proofs.Ytjnocbjngojigaa
