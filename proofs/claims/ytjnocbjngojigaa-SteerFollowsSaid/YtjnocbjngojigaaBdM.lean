/-
  Calls that turn blocks of an interval alone. No program in sight. Wheels and bodies, plainly: what a tick does to them. No function of the program is walked here.
-/
import Derived.Test.YtjnocbjngojigaaInv
import Derived.Test.YtjnocbjngojigaaLawQ
import Derived.Test.YtjnocbjngojigaaVUnit
import Derived.Test.YtjnocbjngojigaaVecI
import Derived.Test.YtjnocbjngojigaaBet
set_option linter.unusedSimpArgs false
set_option linter.unusedVariables false
namespace Go.Proofs.Ytjnocbjngojigaa
open Go.RowKit PM Dt
structure Save (lo hi : Nat) (a w : World) : Prop where
  os : w.os = a.os
  tape : w.tape = a.tape
  output : w.output = a.output
  size : a.heap.size ≤ w.heap.size
  block : ∀ k, k < a.heap.size → (k < lo ∨ hi < k) → w.heap[k]? = a.heap[k]?
variable {lo hi : Nat} {a b c : World}
theorem Save.of (h : Below a.heap.size a b) : Save lo hi a b := ⟨h.os, h.tape, h.output, h.size, fun k hk _ => h.block k hk⟩
theorem Save.refl (lo hi : Nat) (a : World) : Save lo hi a a := Save.of (Below.refl _ _)
theorem Save.trans (h : Save lo hi a b) (k : Below a.heap.size b c) : Save lo hi a c :=
  ⟨k.os.trans h.os, k.tape.trans h.tape, k.output.trans h.output, Nat.le_trans h.size k.size, fun j hj ho => (k.block j hj).trans (h.block j hj ho)⟩
theorem Save.next (h : Save lo hi a b) (k : Save lo hi b c) : Save lo hi a c :=
  ⟨k.os.trans h.os, k.tape.trans h.tape, k.output.trans h.output, Nat.le_trans h.size k.size, fun j hj ho => (k.block j (Nat.lt_of_lt_of_le hj h.size) ho).trans (h.block j hj ho)⟩
theorem Save.alloc (h : Save lo hi a b) (hs : a.heap.size ≤ b.heap.size) (o : Obj) : Save lo hi a (b.alloc o) := h.trans ((Below.refl _ _).alloc hs o)
theorem Save.drew (h : Save lo hi a b) : Save lo hi a b.drew := ⟨h.os, h.tape, h.output, h.size, h.block⟩
theorem Save.row (h : Save lo hi a b) {g : Nat} (hg : (lo ≤ g ∧ g ≤ hi) ∨ a.heap.size ≤ g) (x : Array Value) : Save lo hi a (b.setRow g x) :=
  ⟨h.os, h.tape, h.output, by simpa using h.size, fun k hk ho => by rw [setRow_other _ _ _ _ (by omega)]; exact h.block k hk ho⟩
theorem Save.below (h : Save lo hi a b) {n : Nat} (hn : n ≤ a.heap.size) (hl : n ≤ lo) : Below n a b := ⟨h.os, h.tape, h.output, h.size, fun k hk => h.block k (by omega) (by omega)⟩
theorem blk.save {x : Nat} {cs : Array Value} {t : TypeId} (h : blk a x cs t) (hs : Save lo hi a b) (ho : x < lo ∨ hi < x) : blk b x cs t := by
  unfold blk at h ⊢
  rw [hs.block x (blk.lt h) ho]; exact h
end Go.Proofs.Ytjnocbjngojigaa
namespace Go.Proofs.Ytjnocbjngojigaa
open Go.RowKit PM Dt
def frW (h : Int) : Int := h.tdiv 1024
def stpX (h c : Int) : Int := clampV (h - frW h + clampV c (-1048576) 1048576) (-16777216) 16777216
def stpF (h : Nat → Int) (f : Int) (c : Nat → Int) : Nat → Int := fun i => if (i : Int) = f then h i else stpX (h i) (c i)
def setF (h : Nat → Int) (j : Nat) : Nat → Int := fun i => if i = j then 0 else h i
def isW (f : Int) : Bool := decide (-1 ≤ f) && decide (f ≤ 3)
def whB (h : Nat → Int) (f : Int) (i : Nat) : Bool := decide (-16777216 ≤ h i) && (decide (h i ≤ 16777216) && !(decide ((i : Int) = f) && !decide (h i = 0)))
def newB (h : Nat → Int) (f : Int) : Bool := isW f && (whB h f 0 && (whB h f 1 && (whB h f 2 && whB h f 3)))
def sumW (h : Nat → Int) : Nat → Int := fun i => h i + h 3
structure SI (h : Nat → Int) (f : Int) : Prop where
  b : ∀ i, i < 4 → -16777216 ≤ h i ∧ h i ≤ 16777216
  l : -1 ≤ f
  u : f ≤ 3
theorem whB_bd {h : Nat → Int} {f : Int} {i : Nat} (k : whB h f i = true) : -16777216 ≤ h i ∧ h i ≤ 16777216 ∧ ((i : Int) = f → h i = 0) := by
  simp only [whB, Bool.and_eq_true, decide_eq_true_eq, Bool.not_eq_true', Bool.and_eq_false_imp, Bool.not_eq_false'] at k
  exact ⟨k.1, k.2.1, fun e => by simpa using k.2.2 e⟩
theorem newB_SI {h : Nat → Int} {f : Int} (k : newB h f = true) : SI h f ∧ ∀ i : Nat, i < 4 → (i : Int) = f → h i = 0 := by
  simp only [newB, isW, Bool.and_eq_true, decide_eq_true_eq] at k
  obtain ⟨⟨k1, k2⟩, a, b, c, d⟩ := k
  have A := whB_bd a; have B := whB_bd b; have C := whB_bd c; have D := whB_bd d
  refine ⟨⟨fun i hi => ?_, k1, k2⟩, fun i hi => ?_⟩
  · rcases (show i = 0 ∨ i = 1 ∨ i = 2 ∨ i = 3 by omega) with rfl | rfl | rfl | rfl
    all_goals first | exact ⟨A.1, A.2.1⟩ | exact ⟨B.1, B.2.1⟩ | exact ⟨C.1, C.2.1⟩ | exact ⟨D.1, D.2.1⟩
  · rcases (show i = 0 ∨ i = 1 ∨ i = 2 ∨ i = 3 by omega) with rfl | rfl | rfl | rfl
    all_goals first | exact A.2.2 | exact B.2.2 | exact C.2.2 | exact D.2.2
theorem clampW_bd (x : Int) : -16777216 ≤ clampV x (-16777216) 16777216 ∧ clampV x (-16777216) 16777216 ≤ 16777216 := by
  unfold clampV; split <;> (try split) <;> omega
theorem clampT_bd (x : Int) : -1048576 ≤ clampV x (-1048576) 1048576 ∧ clampV x (-1048576) 1048576 ≤ 1048576 := by
  unfold clampV; split <;> (try split) <;> omega
theorem frW_bd {h : Int} (hh : -16777216 ≤ h ∧ h ≤ 16777216) : -16384 ≤ frW h ∧ frW h ≤ 16384 := by
  unfold frW
  rcases Int.le_total 0 h with h0 | h0
  · rw [Int.tdiv_eq_ediv_of_nonneg h0]; omega
  · have e : h.tdiv 1024 = -((-h) / 1024) := by
      rw [← Int.tdiv_eq_ediv_of_nonneg (show 0 ≤ -h by omega), Int.neg_tdiv]; omega
    rw [e]; omega
theorem frW_neg (h : Int) : -frW (-h) = frW h := by unfold frW; rw [Int.neg_tdiv]; omega
theorem SI.step {h : Nat → Int} {f : Int} (k : SI h f) (c : Nat → Int) : SI (stpF h f c) f :=
  ⟨fun i hi => by
    unfold stpF
    split
    · exact k.b i hi
    · exact clampW_bd _, k.l, k.u⟩
theorem SI.fail {h : Nat → Int} {f : Int} (k : SI h f) {j : Nat} (hj : j < 4) : SI (setF h j) j :=
  ⟨fun i hi => by
    unfold setF
    split
    · omega
    · exact k.b i hi, by omega, by omega⟩
theorem sumW_bd {h : Nat → Int} {f : Int} (k : SI h f) {i : Nat} (hi : i < 3) : -33554432 ≤ sumW h i ∧ sumW h i ≤ 33554432 := by
  have := k.b i (by omega); have := k.b 3 (by omega)
  unfold sumW; omega
structure BSt where
  Q : Nat → Int
  T : Nat → Int
  h : Nat → Int
  f : Int
def sqV (h : Nat → Int) : Int := h 0 * h 0 + h 1 * h 1 + h 2 * h 2
def allB (h : Nat → Int) : Bool := smallB h 1048576 && decide (sqV h ≤ 1099511627776)
def momG (Q T h : Nat → Int) : Nat → Int := vsubF (qbackF Q T) (sumW h)
def momF (X : BSt) : Nat → Int := momG X.Q X.T X.h
def mulF (k : Int) (l : Nat → Int) : Nat → Int := fun i => k * l i
def attG (Q l : Nat → Int) : Nat → Int := if zV l then Q else turnF Q (mulF 2 l)
def tickH (X : BSt) (c : Nat → Int) : Nat → Int := stpF X.h X.f c
def tickL (X : BSt) (c : Nat → Int) : Nat → Int := momG X.Q X.T (tickH X c)
def tickQ (X : BSt) (c : Nat → Int) : Nat → Int := attG X.Q (tickL X c)
def tickD (X : BSt) (c t : Nat → Int) : Nat → Int := qrotF (tickQ X c) t
def tickS (X : BSt) (c t : Nat → Int) : Nat → Int := vaddF X.T (tickD X c t)
def tickX (X : BSt) (c t : Nat → Int) : BSt := if smallB t 1048576 then ⟨tickQ X c, if allB (tickS X c t) then tickS X c t else X.T, tickH X c, X.f⟩ else X
def tickC (X : BSt) (c t : Nat → Int) : Nat → Int := if smallB t 1048576 && allB (tickS X c t) then tickD X c t else fun _ => 0
def tickE (t : Nat → Int) : Int := if smallB t 1048576 then 0 else 2
def failE (f i : Int) : Int := if decide (i < 0) || decide (3 < i) then 2 else if decide (0 ≤ f) then 5 else 0
structure BI (X : BSt) : Prop where
  q : ∀ i, i < 4 → I64 (X.Q i)
  v : validQ X.Q = true
  t : allB X.T = true
  s : SI X.h X.f
theorem mom_ok (Q T h : Nat → Int) : ∀ i, i < 3 → -1099511627776 ≤ momG Q T h i ∧ momG Q T h i ≤ 1099511627776 := fun i hi => by
  unfold momG vsubF
  split
  · unfold resF
    split
    · rename_i k; exact (vb_iff _).1 ((okV_iff _).1 k i hi)
    · exact show (-1099511627776 : Int) ≤ 0 ∧ (0 : Int) ≤ 1099511627776 from ⟨by decide, by decide⟩
  · exact show (-1099511627776 : Int) ≤ 0 ∧ (0 : Int) ≤ 1099511627776 from ⟨by decide, by decide⟩
theorem mom_I (Q T h : Nat → Int) {k : Int} (hk : 0 ≤ k ∧ k ≤ 4) : ∀ i, i < 3 → I64 (mulF k (momG Q T h) i) := fun i hi => by
  have := mom_ok Q T h i hi
  unfold mulF
  obtain ⟨k0, k1⟩ := hk
  rcases (show k = 0 ∨ k = 1 ∨ k = 2 ∨ k = 3 ∨ k = 4 by omega) with rfl | rfl | rfl | rfl | rfl <;> exact ⟨by omega, by omega⟩
end Go.Proofs.Ytjnocbjngojigaa
