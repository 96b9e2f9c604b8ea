/-
  Calls that turn blocks of an interval alone. No program in sight.
-/
import Derived.Test.YtjnocbjngojigaaInv
set_option linter.unusedSimpArgs false
set_option linter.unusedVariables false
namespace Go.Proofs.Ytjnocbjngojigaa
open Go.RowKit PM Dt
/-- All blocks but those from lo to hi are as they were. -/
structure Save (lo hi : Nat) (a w : World) : Prop where
  os : w.os = a.os
  tape : w.tape = a.tape
  output : w.output = a.output
  size : a.heap.size ≤ w.heap.size
  block : ∀ k, k < a.heap.size → (k < lo ∨ hi < k) → w.heap[k]? = a.heap[k]?
variable {lo hi : Nat} {a b c : World}
theorem Save.of (h : Below a.heap.size a b) : Save lo hi a b := ⟨h.os, h.tape, h.output, h.size, fun k hk _ => h.block k hk⟩
theorem Save.refl (lo hi : Nat) (a : World) : Save lo hi a a := Save.of (Below.refl _ _)
theorem Save.trans (h : Save lo hi a b) (k : Below a.heap.size b c) : Save lo hi a c :=
  ⟨k.os.trans h.os, k.tape.trans h.tape, k.output.trans h.output, Nat.le_trans h.size k.size, fun j hj ho => (k.block j hj).trans (h.block j hj ho)⟩
theorem Save.next (h : Save lo hi a b) (k : Save lo hi b c) : Save lo hi a c :=
  ⟨k.os.trans h.os, k.tape.trans h.tape, k.output.trans h.output, Nat.le_trans h.size k.size, fun j hj ho => (k.block j (Nat.lt_of_lt_of_le hj h.size) ho).trans (h.block j hj ho)⟩
theorem Save.alloc (h : Save lo hi a b) (hs : a.heap.size ≤ b.heap.size) (o : Obj) : Save lo hi a (b.alloc o) := h.trans ((Below.refl _ _).alloc hs o)
theorem Save.drew (h : Save lo hi a b) : Save lo hi a b.drew := ⟨h.os, h.tape, h.output, h.size, h.block⟩
theorem Save.row (h : Save lo hi a b) {g : Nat} (hg : (lo ≤ g ∧ g ≤ hi) ∨ a.heap.size ≤ g) (x : Array Value) : Save lo hi a (b.setRow g x) :=
  ⟨h.os, h.tape, h.output, by simpa using h.size, fun k hk ho => by rw [setRow_other _ _ _ _ (by omega)]; exact h.block k hk ho⟩
/-- What lies below the interval. -/
theorem Save.below (h : Save lo hi a b) {n : Nat} (hn : n ≤ a.heap.size) (hl : n ≤ lo) : Below n a b := ⟨h.os, h.tape, h.output, h.size, fun k hk => h.block k (by omega) (by omega)⟩
theorem blk.save {x : Nat} {cs : Array Value} {t : TypeId} (h : blk a x cs t) (hs : Save lo hi a b) (ho : x < lo ∨ hi < x) : blk b x cs t := by
  unfold blk at h ⊢
  rw [hs.block x (blk.lt h) ho]; exact h
end Go.Proofs.Ytjnocbjngojigaa
