/-
  The ticks at which the craft is in view: the iterator that Windows ranges over.
-/
import Derived.RangeFuncNested
import Derived.RangeFuncBound
import Derived.RangeFuncCalls
import Derived.RangeFuncLeaves
import Derived.RangeFuncBox
import Derived.Shelf.Abstract
import Derived.Shelf.RegionOpen
import Derived.WalkKit
import Derived.OwnWalkIn
import Derived.TacticsInMore
import Derived.LoopNIn
import Derived.LoopIn
import Derived.Maps.AppendAt
import Derived.Test.YtnkjbdfhdenbcaaOrbE
set_option linter.unusedSimpArgs false
set_option linter.unusedVariables false
namespace Go.Proofs.Ytnkjbdfhdenbcaa
open Go.RowKit PM Dt Go.Shelf
attribute [local go_sem] Oper.semAt_some
/-- The ticks in view, of k ticks from a on. -/
def tick (f g : Nat → Int) (a : Int) : Nat → List Int
  | 0 => []
  | k + 1 => tick f g a k ++ (if viewB f g (a + k) then [a + k] else [])
theorem tick_len (f g : Nat → Int) (a : Int) : ∀ k, (tick f g a k).length ≤ k
  | 0 => Nat.le_refl _
  | k + 1 => by
    have := tick_len f g a k
    unfold tick
    rw [List.length_append]
    split <;> simp <;> omega
theorem tick_yes {f g : Nat → Int} {a : Int} {k : Nat} (h : viewB f g (a + k) = true) : tick f g a (k + 1) = tick f g a k ++ [a + k] := by
  show tick f g a k ++ (if viewB f g (a + k) = true then [a + k] else []) = _
  rw [h]; rfl
theorem tick_no {f g : Nat → Int} {a : Int} {k : Nat} (h : viewB f g (a + k) = false) : tick f g a (k + 1) = tick f g a k := by
  show tick f g a k ++ (if viewB f g (a + k) = true then [a + k] else []) = _
  rw [h]; exact List.append_nil _
/-- The blocks from lo on, below hi, that are cells lie as they lay. -/
def KeepsIn (lo hi : Nat) (A B : World) : Prop := A.heap.size ≤ B.heap.size ∧ ∀ k c t, lo ≤ k → k < hi → blk A k c t → blk B k c t
theorem KeepsIn.refl (lo hi : Nat) (A : World) : KeepsIn lo hi A A := ⟨Nat.le_refl _, fun _ _ _ _ _ h => h⟩
theorem KeepsIn.trans {lo hi : Nat} {A B C : World} (h : KeepsIn lo hi A B) (k : KeepsIn lo hi B C) : KeepsIn lo hi A C := ⟨Nat.le_trans h.1 k.1, fun i c t hl hh hb => k.2 i c t hl hh (h.2 i c t hl hh hb)⟩
theorem KeepsIn.below {lo hi : Nat} {A B : World} (h : Below A.heap.size A B) : KeepsIn lo hi A B := ⟨h.size, fun _ _ _ _ _ hb => hb.below h hb.lt⟩
theorem KeepsIn.grown {lo hi : Nat} {A B : World} {row : Option Nat} (h : A.grownBy B row) (hr : ∀ r, row = some r → r < lo ∨ hi ≤ r) : KeepsIn lo hi A B :=
  ⟨h.size, fun k c t hl hh hb => by
    have : some k ≠ row := fun e => by have := hr k e.symm; omega
    exact (h.block k hb.lt this).trans hb⟩
theorem KeepsIn.put {lo hi : Nat} (W : World) (l : Nat) (o o' : Obj) (hl : W.heap[l]? = some o) (ho : o.isCells = false) : KeepsIn lo hi W (W.putObj l o') :=
  ⟨(grownBy_putObj' W l o').size, fun k c t _ _ hb => by
    have : k ≠ l := fun e => by subst e; rw [show W.heap[k]? = _ from hb] at hl; cases hl; cases ho
    exact (World.putObj_heap_other this).trans hb⟩
theorem grown_of_below {w w' : World} (h : Below w.heap.size w w') : w.grownBy w' none := ⟨h.os, h.tape, h.output, h.size, fun k hk _ => h.block k hk⟩
set_option maxRecDepth 100000 in
set_option maxHeartbeats 2000000 in
theorem seen1_in (n : Nat) (hn : 1 ≤ n) (l lo hi bo bs ba bb : Nat) (f g : Nat → Int) (hf : OO f) (hg : SS g) (a : Int) (M : Nat) (hr : -4611686018427387904 ≤ a ∧ a + M ≤ 4611686018427387904) (hbo : lo ≤ bo ∧ bo < hi) (hbs : lo ≤ bs ∧ bs < hi) (hbb : lo ≤ bb ∧ bb < hi)
    (J Jx : List Int → World → Prop)
    (hY : ∀ pre x W, J pre W → pre.length < M → YieldAt Fence.wide (n - 1) Try.prog l #[.int .i64 x] W fun e W' =>
      (e = .returned (.bool true) ∧ J (pre ++ [x]) W' ∧ KeepsIn lo hi W W') ∨ (e = .returned (.bool false) ∧ Jx (pre ++ [x]) W'))
    (W : World) (hJ : AbidesFrom W.heap.size J) (hA : W.cell? ⟨ba, 0, none⟩ = some (.int .i64 a)) (hE : blk W bb #[.int .i64 (a + M)] 2) (hO : blk W bo (ofn f) 24) (hS : blk W bs (stn g) 26) (h0 : J [] W) :
    CallsIn Fence.wide n Try.prog 115 #[.func (.yield l) #[] #[], .pointer (some ⟨ba, 0, none⟩), .pointer (some ⟨bb, 0, none⟩), .pointer (some ⟨bo, 0, none⟩), .pointer (some ⟨bs, 0, none⟩)] W fun e W' => (∃ v, e = .returned v) ∧
      ((∃ ys, ys = tick f g a M ∧ J ys W') ∨ (∃ pre, True ∧ Jx pre W')) := by
  have IV := Lib.hid (fun t w => inview_any f g t w hf hg)
  unfold ofn stn at IV
  clear hf hg
  refine callsIn_of_wp Try.func115 rfl trivial ?_ rfl
  simp only [Try.ntmps115, List.size_toArray, List.length_cons, List.length_nil, Nat.reduceAdd, Nat.reduceSub, Array.replicate_succ, Array.replicate_zero, List.push_toArray, List.append_toArray, List.nil_append, List.cons_append]
  gi_wp2
  gi_loopw [6] (fun i wr => ∃ k : Nat, k ≤ M ∧ i = .int .i64 (a + k) ∧ J (tick f g a k) wr ∧ KeepsIn lo hi W wr)
    (fun i _ => (a + M - intOf i).toNat)
  case atStart => exact ⟨0, Nat.zero_le _, by simp, h0, KeepsIn.refl _ _ _⟩
  case round =>
    obtain ⟨k, hk, rfl, hJs, hnx⟩ := hrel
    have hE0 := hnx.2 _ _ _ hbb.1 hbb.2 hE
    have hE' : wr.cell? ⟨bb, 0, none⟩ = some (.int .i64 (a + M)) := hE0.cellIs rfl
    have hO' := hnx.2 _ _ _ hbo.1 hbo.2 hO
    have hS' := hnx.2 _ _ _ hbs.1 hbs.2 hS
    have o0 : wr.cell? ⟨bo, 0, none⟩ = some (.int .i64 (f 0)) := hO'.cellIs rfl
    have o1 : wr.cell? ⟨bo, 1, none⟩ = some (.int .i64 (f 1)) := hO'.cellIs rfl
    have o2 : wr.cell? ⟨bo, 2, none⟩ = some (.int .i64 (f 2)) := hO'.cellIs rfl
    have o3 : wr.cell? ⟨bo, 3, none⟩ = some (.int .u32 (f 3)) := hO'.cellIs rfl
    have o4 : wr.cell? ⟨bo, 4, none⟩ = some (.int .u32 (f 4)) := hO'.cellIs rfl
    have o5 : wr.cell? ⟨bo, 5, none⟩ = some (.int .u32 (f 5)) := hO'.cellIs rfl
    have o6 : wr.cell? ⟨bo, 6, none⟩ = some (.int .u32 (f 6)) := hO'.cellIs rfl
    have o7 : wr.cell? ⟨bo, 7, none⟩ = some (.int .i64 (f 7)) := hO'.cellIs rfl
    have s0 : wr.cell? ⟨bs, 0, none⟩ = some (.int .u32 (g 0)) := hS'.cellIs rfl
    have s1 : wr.cell? ⟨bs, 1, none⟩ = some (.int .u32 (g 1)) := hS'.cellIs rfl
    have s2 : wr.cell? ⟨bs, 2, none⟩ = some (.int .i64 (g 2)) := hS'.cellIs rfl
    by_cases hlt : k < M
    · have hd : decide (a + (k : Int) < a + (M : Int)) = true := decide_eq_true (by omega)
      have hlt2 : a + (k : Int) < a + (M : Int) := by omega
      have hw : IntKind.i64.wrap (a + (k : Int) + 1) = a + ((k + 1 : Nat) : Int) := by rw [IntKind.wrap_i64]; omega
      cases hv : viewB f g (a + k) with
      | true =>
        gi_wp2_with (refine ⟨trivial, ?_⟩; gi_at_call 17; refine (callsIn_wide.2 (IV.out (a + (k : Int)) wr)).mono ?_; rintro e w1 ⟨rfl, hb1⟩; have hJ1 := hJ _ wr w1 none hJs (grown_of_below hb1) (fun r e => by cases e); have hnx1 := hnx.trans (KeepsIn.below hb1); obtain ⟨fn, tmps, assign, body, hy, hR⟩ := hY _ (a + (k : Int)) w1 hJ1 (Nat.lt_of_le_of_lt (tick_len f g a k) hlt))
        refine hR.mono ?_
        rintro e W3 (⟨rfl, hJ3, hk3⟩ | ⟨rfl, hJx3⟩)
        · gi_wp2
          go_roundw
          case rel => exact ⟨k + 1, by omega, rfl, by rw [tick_yes hv]; exact hJ3, hnx1.trans hk3⟩
          case measure => simp [intOf]; omega
        · gi_wp2
          refine bodyPost_ret (results_none rfl _ _ _) rfl ?_
          exact ⟨⟨_, rfl⟩, .inr ⟨_, trivial, hJx3⟩⟩
      | false =>
        gi_wp2_with (refine ⟨trivial, ?_⟩; gi_at_call 17; refine (callsIn_wide.2 (IV.out (a + (k : Int)) wr)).mono ?_; rintro e w1 ⟨rfl, hb1⟩; have hJ1 := hJ _ wr w1 none hJs (grown_of_below hb1) (fun r e => by cases e); have hnx1 := hnx.trans (KeepsIn.below hb1))
        refine ⟨fun _ h => (by cases h), ?_⟩
        gi_wp2
        go_roundw
        case rel => exact ⟨k + 1, by omega, rfl, by rw [tick_no hv]; exact hJ1, hnx1⟩
        case measure => simp [intOf]; omega
    · obtain rfl : k = M := by omega
      have hd : decide (a + (k : Int) < a + (k : Int)) = false := decide_eq_false (by omega)
      gi_wp2
      go_end0
      exact ⟨⟨_, rfl⟩, .inl ⟨_, rfl, hJs⟩⟩
set_option maxRecDepth 100000 in
set_option maxHeartbeats 1000000 in
theorem seen_in (n : Nat) (f g : Nat → Int) (a b : Int) (w : World) :
    CallsIn Fence.wide n Try.prog 58 #[.agg (ofn f), .agg (stn g), .int .i64 a, .int .i64 b] w fun e w' => e = .returned (.func (.func 115) #[] #[.pointer (some ⟨w.heap.size + 2, 0, none⟩), .pointer (some ⟨w.heap.size + 3, 0, none⟩), .pointer (some ⟨w.heap.size, 0, none⟩), .pointer (some ⟨w.heap.size + 1, 0, none⟩)]) ∧
      w' = (((w.alloc (.cells (ofn f) 24)).alloc (.cells (stn g) 26)).alloc (.cells #[.int .i64 a] 2)).alloc (.cells #[.int .i64 b] 2) := by
  refine callsIn_of_wp Try.func58 rfl trivial ?_ rfl
  simp only [Try.ntmps58, List.size_toArray, List.length_cons, List.length_nil, Nat.reduceAdd, Nat.reduceSub, Array.replicate_succ, Array.replicate_zero, List.push_toArray, List.append_toArray, List.nil_append, List.cons_append]
  gi_wp2
  go_ret
  exact ⟨rfl, rfl⟩
/-- What 'seen' hands back yields just the ticks in view. -/
theorem seen_stops (n : Nat) (hn : 1 ≤ n) (lo hi bo bs ba bb : Nat) (f g : Nat → Int) (hf : OO f) (hg : SS g) (a : Int) (M : Nat) (hr : -4611686018427387904 ≤ a ∧ a + M ≤ 4611686018427387904) (w : World)
    (hO : blk w bo (ofn f) 24) (hS : blk w bs (stn g) 26) (hA : blk w ba #[.int .i64 a] 2) (hE : blk w bb #[.int .i64 (a + M)] 2) (hbo : lo ≤ bo ∧ bo < hi) (hbs : lo ≤ bs ∧ bs < hi) (hbb : lo ≤ bb ∧ bb < hi) :
    SeqStopsK Fence.wide n Try.prog 115 #[.pointer (some ⟨ba, 0, none⟩), .pointer (some ⟨bb, 0, none⟩), .pointer (some ⟨bo, 0, none⟩), .pointer (some ⟨bs, 0, none⟩)] (fun x : Int => #[Value.int .i64 x]) (KeepsIn lo hi) (fun ys => ys = tick f g a M) (fun _ => True) M w :=
  fun l J Jx W hW hJ _ hY h0 =>
    seen1_in n hn l lo hi bo bs ba bb f g hf hg a M hr hbo hbs hbb J Jx hY W hJ ((hA.below hW hA.lt).cellIs rfl) (hE.below hW hE.lt) (hO.below hW hO.lt) (hS.below hW hS.lt) h0
end Go.Proofs.Ytnkjbdfhdenbcaa
