/-
  Wheels: Fail.
-/
import Derived.Test.YtkmelddejdikgaaWhB
set_option linter.unusedSimpArgs false
set_option linter.unusedVariables false
namespace Go.Proofs.Ytkmelddejdikgaa
open Go.RowKit PM Dt
def failH (h : Nat → Int) (f i : Int) : Nat → Int := if failE f i = 0 then setF h i.toNat else h
def failF (f i : Int) : Int := if failE f i = 0 then i else f
theorem Save.toRow {b : Nat} {w w' : World} {c0 c : Array Value} {t : TypeId} (h0 : blk w b c0 t) (hs : Save b b w w') (h1 : blk w' b c t) : Below w.heap.size (w.setRow b c) w' :=
  ⟨hs.os, hs.tape, hs.output, by have := hs.size; simpa using this, fun k hk => by
    by_cases e : k = b
    · subst e
      have : blk (w.setRow k c) k c t := h0.row c
      unfold blk at this h1
      rw [this, h1]
    · rw [setRow_other _ _ _ _ e]
      exact hs.block k hk (by omega)⟩
theorem sstep_row (h : Nat → Int) (f : Int) (b : Nat) (c : Nat → Int) (w : World) (hg : blk w b (setc (h, f)) 230) (hI : SI h f) : Calls Try.prog 150 #[.pointer (some ⟨b, 0, none⟩), .agg (qfn c)] w fun e w' => e = .returned (.int .i64 0) ∧ Below w.heap.size (w.setRow b (setc (stpF h f c, f))) w' :=
  (sstep_any h f b c w hg hI).mono fun e w' ⟨he, hb, hs⟩ => ⟨he, hs.toRow hg hb⟩
end Go.Proofs.Ytkmelddejdikgaa
