/-
  The ticks at which the craft is in view: the iterator that Windows ranges over. The spans in view: Windows of the package.
-/
import Derived.RangeFuncNested
import Derived.RangeFuncBound
import Derived.RangeFuncCalls
import Derived.RangeFuncLeaves
import Derived.RangeFuncBox
import Derived.Shelf.Abstract
import Derived.Shelf.RegionOpen
import Derived.WalkKit
import Derived.OwnWalkIn
import Derived.TacticsInMore
import Derived.LoopNIn
import Derived.LoopIn
import Derived.Maps.AppendAt
import Derived.Test.YtkmelddejdikgaaOrbE
import Derived.RangeFuncFrom
import Derived.RangeFuncWrites
import Derived.Sort.CutIn
set_option linter.unusedSimpArgs false
set_option linter.unusedVariables false
namespace Go.Proofs.Ytkmelddejdikgaa
open Go.RowKit PM Dt Go.Shelf
attribute [local go_sem] Oper.semAt_some
/-- The ticks in view, of k ticks from a on. -/
def tick (f g : Nat → Int) (a : Int) : Nat → List Int
  | 0 => []
  | k + 1 => tick f g a k ++ (if viewB f g (a + k) then [a + k] else [])
theorem tick_len (f g : Nat → Int) (a : Int) : ∀ k, (tick f g a k).length ≤ k
  | 0 => Nat.le_refl _
  | k + 1 => by
    have := tick_len f g a k
    unfold tick
    rw [List.length_append]
    split <;> simp <;> omega
theorem tick_yes {f g : Nat → Int} {a : Int} {k : Nat} (h : viewB f g (a + k) = true) : tick f g a (k + 1) = tick f g a k ++ [a + k] := by
  show tick f g a k ++ (if viewB f g (a + k) = true then [a + k] else []) = _
  rw [h]; rfl
theorem tick_no {f g : Nat → Int} {a : Int} {k : Nat} (h : viewB f g (a + k) = false) : tick f g a (k + 1) = tick f g a k := by
  show tick f g a k ++ (if viewB f g (a + k) = true then [a + k] else []) = _
  rw [h]; exact List.append_nil _
/-- The blocks from lo on, below hi, that are cells lie as they lay. -/
def KeepsIn (lo hi : Nat) (A B : World) : Prop := A.heap.size ≤ B.heap.size ∧ ∀ k c t, lo ≤ k → k < hi → blk A k c t → blk B k c t
theorem KeepsIn.refl (lo hi : Nat) (A : World) : KeepsIn lo hi A A := ⟨Nat.le_refl _, fun _ _ _ _ _ h => h⟩
theorem KeepsIn.trans {lo hi : Nat} {A B C : World} (h : KeepsIn lo hi A B) (k : KeepsIn lo hi B C) : KeepsIn lo hi A C := ⟨Nat.le_trans h.1 k.1, fun i c t hl hh hb => k.2 i c t hl hh (h.2 i c t hl hh hb)⟩
theorem KeepsIn.below {lo hi : Nat} {A B : World} (h : Below A.heap.size A B) : KeepsIn lo hi A B := ⟨h.size, fun _ _ _ _ _ hb => hb.below h hb.lt⟩
theorem KeepsIn.grown {lo hi : Nat} {A B : World} {row : Option Nat} (h : A.grownBy B row) (hr : ∀ r, row = some r → r < lo ∨ hi ≤ r) : KeepsIn lo hi A B :=
  ⟨h.size, fun k c t hl hh hb => by
    have : some k ≠ row := fun e => by have := hr k e.symm; omega
    exact (h.block k hb.lt this).trans hb⟩
theorem KeepsIn.put {lo hi : Nat} (W : World) (l : Nat) (o o' : Obj) (hl : W.heap[l]? = some o) (ho : o.isCells = false) : KeepsIn lo hi W (W.putObj l o') :=
  ⟨(grownBy_putObj' W l o').size, fun k c t _ _ hb => by
    have : k ≠ l := fun e => by subst e; rw [show W.heap[k]? = _ from hb] at hl; cases hl; cases ho
    exact (World.putObj_heap_other this).trans hb⟩
theorem grown_of_below {w w' : World} (h : Below w.heap.size w w') : w.grownBy w' none := ⟨h.os, h.tape, h.output, h.size, fun k hk _ => h.block k hk⟩
set_option maxRecDepth 100000 in
set_option maxHeartbeats 2000000 in
theorem seen1_in (n : Nat) (hn : 1 ≤ n) (l lo hi bo bs ba bb : Nat) (f g : Nat → Int) (hf : OO f) (hg : SS g) (a : Int) (M : Nat) (hr : -4611686018427387904 ≤ a ∧ a + M ≤ 4611686018427387904) (hbo : lo ≤ bo ∧ bo < hi) (hbs : lo ≤ bs ∧ bs < hi) (hbb : lo ≤ bb ∧ bb < hi)
    (J Jx : List Int → World → Prop)
    (hY : ∀ pre x W, J pre W → pre.length < M → YieldAt Fence.wide (n - 1) Try.prog l #[.int .i64 x] W fun e W' =>
      (e = .returned (.bool true) ∧ J (pre ++ [x]) W' ∧ KeepsIn lo hi W W') ∨ (e = .returned (.bool false) ∧ Jx (pre ++ [x]) W'))
    (W : World) (hJ : AbidesFrom W.heap.size J) (hA : W.cell? ⟨ba, 0, none⟩ = some (.int .i64 a)) (hE : blk W bb #[.int .i64 (a + M)] 2) (hO : blk W bo (ofn f) 50) (hS : blk W bs (stn g) 63) (h0 : J [] W) :
    CallsIn Fence.wide n Try.prog 174 #[.func (.yield l) #[] #[], .pointer (some ⟨ba, 0, none⟩), .pointer (some ⟨bb, 0, none⟩), .pointer (some ⟨bo, 0, none⟩), .pointer (some ⟨bs, 0, none⟩)] W fun e W' => (∃ v, e = .returned v) ∧
      ((∃ ys, ys = tick f g a M ∧ J ys W') ∨ (∃ pre, True ∧ Jx pre W')) := by
  have IV := Lib.hid (fun t w => inview_any f g t w hf hg)
  unfold ofn stn at IV
  clear hf hg
  refine callsIn_of_wp Try.func174 rfl trivial ?_ rfl
  simp only [Try.ntmps174, List.size_toArray, List.length_cons, List.length_nil, Nat.reduceAdd, Nat.reduceSub, Array.replicate_succ, Array.replicate_zero, List.push_toArray, List.append_toArray, List.nil_append, List.cons_append]
  gi_wp2
  gi_loopw [6] (fun i wr => ∃ k : Nat, k ≤ M ∧ i = .int .i64 (a + k) ∧ J (tick f g a k) wr ∧ KeepsIn lo hi W wr)
    (fun i _ => (a + M - intOf i).toNat)
  case atStart => exact ⟨0, Nat.zero_le _, by simp, h0, KeepsIn.refl _ _ _⟩
  case round =>
    obtain ⟨k, hk, rfl, hJs, hnx⟩ := hrel
    have hE0 := hnx.2 _ _ _ hbb.1 hbb.2 hE
    have hE' : wr.cell? ⟨bb, 0, none⟩ = some (.int .i64 (a + M)) := hE0.cellIs rfl
    have hO' := hnx.2 _ _ _ hbo.1 hbo.2 hO
    have hS' := hnx.2 _ _ _ hbs.1 hbs.2 hS
    have o0 : wr.cell? ⟨bo, 0, none⟩ = some (.int .i64 (f 0)) := hO'.cellIs rfl
    have o1 : wr.cell? ⟨bo, 1, none⟩ = some (.int .i64 (f 1)) := hO'.cellIs rfl
    have o2 : wr.cell? ⟨bo, 2, none⟩ = some (.int .i64 (f 2)) := hO'.cellIs rfl
    have o3 : wr.cell? ⟨bo, 3, none⟩ = some (.int .u32 (f 3)) := hO'.cellIs rfl
    have o4 : wr.cell? ⟨bo, 4, none⟩ = some (.int .u32 (f 4)) := hO'.cellIs rfl
    have o5 : wr.cell? ⟨bo, 5, none⟩ = some (.int .u32 (f 5)) := hO'.cellIs rfl
    have o6 : wr.cell? ⟨bo, 6, none⟩ = some (.int .u32 (f 6)) := hO'.cellIs rfl
    have o7 : wr.cell? ⟨bo, 7, none⟩ = some (.int .i64 (f 7)) := hO'.cellIs rfl
    have s0 : wr.cell? ⟨bs, 0, none⟩ = some (.int .u32 (g 0)) := hS'.cellIs rfl
    have s1 : wr.cell? ⟨bs, 1, none⟩ = some (.int .u32 (g 1)) := hS'.cellIs rfl
    have s2 : wr.cell? ⟨bs, 2, none⟩ = some (.int .i64 (g 2)) := hS'.cellIs rfl
    by_cases hlt : k < M
    · have hd : decide (a + (k : Int) < a + (M : Int)) = true := decide_eq_true (by omega)
      have hlt2 : a + (k : Int) < a + (M : Int) := by omega
      have hw : IntKind.i64.wrap (a + (k : Int) + 1) = a + ((k + 1 : Nat) : Int) := by rw [IntKind.wrap_i64]; omega
      cases hv : viewB f g (a + k) with
      | true =>
        gi_wp2_with (refine ⟨trivial, ?_⟩; gi_at_call 27; refine (callsIn_wide.2 (IV.out (a + (k : Int)) wr)).mono ?_; rintro e w1 ⟨rfl, hb1⟩; have hJ1 := hJ _ wr w1 none hJs (grown_of_below hb1) (fun r e => by cases e); have hnx1 := hnx.trans (KeepsIn.below hb1); obtain ⟨fn, tmps, assign, body, hy, hR⟩ := hY _ (a + (k : Int)) w1 hJ1 (Nat.lt_of_le_of_lt (tick_len f g a k) hlt))
        refine hR.mono ?_
        rintro e W3 (⟨rfl, hJ3, hk3⟩ | ⟨rfl, hJx3⟩)
        · gi_wp2
          go_roundw
          case rel => exact ⟨k + 1, by omega, rfl, by rw [tick_yes hv]; exact hJ3, hnx1.trans hk3⟩
          case measure => simp [intOf]; omega
        · gi_wp2
          refine bodyPost_ret (results_none rfl _ _ _) rfl ?_
          exact ⟨⟨_, rfl⟩, .inr ⟨_, trivial, hJx3⟩⟩
      | false =>
        gi_wp2_with (refine ⟨trivial, ?_⟩; gi_at_call 27; refine (callsIn_wide.2 (IV.out (a + (k : Int)) wr)).mono ?_; rintro e w1 ⟨rfl, hb1⟩; have hJ1 := hJ _ wr w1 none hJs (grown_of_below hb1) (fun r e => by cases e); have hnx1 := hnx.trans (KeepsIn.below hb1))
        refine ⟨fun _ h => (by cases h), ?_⟩
        gi_wp2
        go_roundw
        case rel => exact ⟨k + 1, by omega, rfl, by rw [tick_no hv]; exact hJ1, hnx1⟩
        case measure => simp [intOf]; omega
    · obtain rfl : k = M := by omega
      have hd : decide (a + (k : Int) < a + (k : Int)) = false := decide_eq_false (by omega)
      gi_wp2
      go_end0
      exact ⟨⟨_, rfl⟩, .inl ⟨_, rfl, hJs⟩⟩
set_option maxRecDepth 100000 in
set_option maxHeartbeats 1000000 in
theorem seen_in (n : Nat) (f g : Nat → Int) (a b : Int) (w : World) :
    CallsIn Fence.wide n Try.prog 130 #[.agg (ofn f), .agg (stn g), .int .i64 a, .int .i64 b] w fun e w' => e = .returned (.func (.func 174) #[] #[.pointer (some ⟨w.heap.size + 2, 0, none⟩), .pointer (some ⟨w.heap.size + 3, 0, none⟩), .pointer (some ⟨w.heap.size, 0, none⟩), .pointer (some ⟨w.heap.size + 1, 0, none⟩)]) ∧
      w' = (((w.alloc (.cells (ofn f) 50)).alloc (.cells (stn g) 63)).alloc (.cells #[.int .i64 a] 2)).alloc (.cells #[.int .i64 b] 2) := by
  refine callsIn_of_wp Try.func130 rfl trivial ?_ rfl
  simp only [Try.ntmps130, List.size_toArray, List.length_cons, List.length_nil, Nat.reduceAdd, Nat.reduceSub, Array.replicate_succ, Array.replicate_zero, List.push_toArray, List.append_toArray, List.nil_append, List.cons_append]
  gi_wp2
  go_ret
  exact ⟨rfl, rfl⟩
/-- What 'seen' hands back yields just the ticks in view. -/
theorem seen_stops (n : Nat) (hn : 1 ≤ n) (lo hi bo bs ba bb : Nat) (f g : Nat → Int) (hf : OO f) (hg : SS g) (a : Int) (M : Nat) (hr : -4611686018427387904 ≤ a ∧ a + M ≤ 4611686018427387904) (w : World)
    (hO : blk w bo (ofn f) 50) (hS : blk w bs (stn g) 63) (hA : blk w ba #[.int .i64 a] 2) (hE : blk w bb #[.int .i64 (a + M)] 2) (hbo : lo ≤ bo ∧ bo < hi) (hbs : lo ≤ bs ∧ bs < hi) (hbb : lo ≤ bb ∧ bb < hi) :
    SeqStopsK Fence.wide n Try.prog 174 #[.pointer (some ⟨ba, 0, none⟩), .pointer (some ⟨bb, 0, none⟩), .pointer (some ⟨bo, 0, none⟩), .pointer (some ⟨bs, 0, none⟩)] (fun x : Int => #[Value.int .i64 x]) (KeepsIn lo hi) (fun ys => ys = tick f g a M) (fun _ => True) M w :=
  fun l J Jx W hW hJ _ hY h0 =>
    seen1_in n hn l lo hi bo bs ba bb f g hf hg a M hr hbo hbs hbb J Jx hY W hJ ((hA.below hW hA.lt).cellIs rfl) (hE.below hW hE.lt) (hO.below hW hO.lt) (hS.below hW hS.lt) h0
end Go.Proofs.Ytkmelddejdikgaa
namespace Go.Proofs.Ytkmelddejdikgaa
open Go.RowKit PM Dt Go.Shelf
attribute [local go_sem] Oper.semAt_some
/-- One tick more: the last span grows, or a new one begins. -/
def winS (L : List (Int × Int)) (t : Int) : List (Int × Int) :=
  match L.getLast? with
  | some p => if p.2 = t then L.dropLast ++ [(p.1, wrap64 (p.2 + 1))] else L ++ [(t, wrap64 (t + 1))]
  | none => [(t, wrap64 (t + 1))]
def win (ts : List Int) : List (Int × Int) := ts.foldl winS []
def flat (L : List (Int × Int)) : List Value := L.flatMap fun p => [.int .i64 p.1, .int .i64 p.2]
theorem win_snoc (pre : List Int) (x : Int) : win (pre ++ [x]) = winS (win pre) x := by unfold win; rw [List.foldl_append]; rfl
theorem flat_snoc (L : List (Int × Int)) (a b : Int) : flat (L ++ [(a, b)]) = flat L ++ [.int .i64 a, .int .i64 b] := by unfold flat; rw [List.flatMap_append]; rfl
theorem flat_len (L : List (Int × Int)) : (flat L).length = L.length * 2 := by
  unfold flat
  induction L with
  | nil => rfl
  | cons p L ih => rw [List.flatMap_cons, List.length_append, ih]; simp; omega
theorem winS_nil (t : Int) : winS [] t = [(t, wrap64 (t + 1))] := rfl
theorem winS_eq (L : List (Int × Int)) (c d t : Int) (h : d = t) : winS (L ++ [(c, d)]) t = L ++ [(c, wrap64 (d + 1))] := by
  unfold winS
  rw [List.getLast?_append]
  show (if d = t then _ else _) = _
  rw [if_pos h, List.dropLast_concat]
  rfl
theorem winS_ne (L : List (Int × Int)) (c d t : Int) (h : d ≠ t) : winS (L ++ [(c, d)]) t = (L ++ [(c, d)]) ++ [(t, wrap64 (t + 1))] := by
  unfold winS
  rw [List.getLast?_append]
  show (if d = t then _ else _) = _
  rw [if_neg h]
theorem winS_len (L : List (Int × Int)) (t : Int) : (winS L t).length ≤ L.length + 1 := by
  rcases List.eq_nil_or_concat L with rfl | ⟨M, ⟨c, d⟩, rfl⟩
  · rw [winS_nil]; simp
  · rw [List.concat_eq_append]
    by_cases h : d = t
    · rw [winS_eq _ _ _ _ h]; simp
    · rw [winS_ne _ _ _ _ h]; simp
theorem win_len (ts : List Int) : (win ts).length ≤ ts.length := by
  have : ∀ (ts : List Int) (L : List (Int × Int)), (ts.foldl winS L).length ≤ L.length + ts.length := by
    intro ts
    induction ts with
    | nil => intro L; exact Nat.le_refl _
    | cons t ts ih => intro L; have := ih (winS L t); have := winS_len L t; rw [List.foldl_cons, List.length_cons]; omega
  have := this ts []
  unfold win
  simpa using this
/-- The last of an owned row's cells. -/
theorem row_cell {W : World} {n₀ : Nat} {e : TypeId} {g n cap : Nat} {xs : List Value} (h : W.ownsRow n₀ e 2 (.slice (some ⟨g, 0, none⟩) n cap) n xs) {i : Nat} {u : Value} (hx : xs[i]? = some u) : W.cell? ⟨g, i, none⟩ = some u ∧ W.frozen? ⟨g, i, none⟩ = false := by
  rcases h.2 with ⟨h0, _⟩ | ⟨g', cap', cur, hv, hb, hg, hn, hm, hs, hl⟩
  · cases h0
  · obtain ⟨rfl, rfl⟩ : g = g' ∧ cap = cap' := by simp at hv; exact hv
    have hb' : blk W g cur e := hg
    refine ⟨hb'.cellIs ?_, hb'.free i⟩
    rw [← hl] at hx
    rw [List.getElem?_take] at hx
    split at hx
    · simpa using hx
    · cases hx
theorem row_set {W : World} {n₀ : Nat} {e : TypeId} {g n cap : Nat} {xs : List Value} (h : W.ownsRow n₀ e 2 (.slice (some ⟨g, 0, none⟩) n cap) n xs) (i : Nat) (u : Value) : (W.setCell ⟨g, i, none⟩ u).ownsRow n₀ e 2 (.slice (some ⟨g, 0, none⟩) n cap) n (xs.set i u) := by
  refine ⟨by rw [List.length_set]; exact h.1, ?_⟩
  rcases h.2 with ⟨h0, _⟩ | ⟨g', cap', cur, hv, hb, hg, hn, hm, hs, hl⟩
  · cases h0
  · obtain ⟨rfl, rfl⟩ : g = g' ∧ cap = cap' := by simp at hv; exact hv
    have hb' : blk W g cur e := hg
    refine .inr ⟨g, cap, cur.setIfInBounds i u, rfl, hb, hb'.set i u, hn, hm, by rw [Array.size_setIfInBounds]; exact hs, ?_⟩
    rw [Array.toList_setIfInBounds, List.take_set, hl]
theorem grown_set (W : World) (a : Addr) (v : Value) : W.grownBy (W.setCell a v) (some a.block) :=
  ⟨rfl, rfl, rfl, (KeepsWalks.setCell W _ v).size, fun k _ hk => Below.heap_setCell _ _ _ k (fun e => hk (by rw [e]))⟩
theorem row_base {W : World} {n₀ m₀ : Nat} {e : TypeId} {size n : Nat} {v : Value} {xs : List Value} (h : W.ownsRow n₀ e size v n xs) (hm : m₀ ≤ n₀) : W.ownsRow m₀ e size v n xs := by
  refine ⟨h.1, ?_⟩
  rcases h.2 with h0 | ⟨g, cap, cur, hv, hb, hr⟩
  · exact .inl h0
  · exact .inr ⟨g, cap, cur, hv, Nat.le_trans hm hb, hr⟩
theorem appended2 {W w1 : World} {n₀ m₀ lo hi B : Nat} {t e : TypeId} {size : Nat} {v v' : Value} {k m : Nat} {xs ys : List Value} {tmp : Obj}
    (hv : Boxed W B t v) (hte : t ≠ e) (hrow : W.ownsRow n₀ e size v k xs) (hn₀ : n₀ ≤ W.heap.size) (hB : m₀ ≤ B) (hm : m₀ ≤ n₀) (hlo : B < lo) (hhi : hi ≤ n₀)
    (hown' : w1.ownsRow n₀ e size v' m ys) (hgrow : (W.alloc tmp).grownBy w1 v.ownBlock) :
    Boxed w1 B t v ∧ Boxed (w1.setCell ⟨B, 0, none⟩ v') B t v' ∧ (w1.setCell ⟨B, 0, none⟩ v').ownsRow n₀ e size v' m ys ∧ KeepsOthers W (w1.setCell ⟨B, 0, none⟩ v') ∧ Below m₀ W (w1.setCell ⟨B, 0, none⟩ v') ∧ KeepsIn lo hi W (w1.setCell ⟨B, 0, none⟩ v') := by
  obtain ⟨h1, h2, _, h4, h5⟩ := hv.appended hte (row_base hrow hm) (Nat.le_trans hm hn₀) hB (row_base hown' hm) hgrow
  refine ⟨h1, h2, hown'.kept (grownBy_setCell' w1 B v') (.inr (h1.not_row hte hown').symm), h4, h5, ?_⟩
  refine ((KeepsIn.grown (World.grownBy_alloc W tmp none) (fun r e => by cases e)).trans (KeepsIn.grown hgrow fun r e => ?_)).trans (KeepsIn.grown (grown_set w1 ⟨B, 0, none⟩ v') fun r e => by cases e; exact .inl hlo)
  rcases hrow.2 with ⟨rfl, _⟩ | ⟨g, cap, cur, rfl, hb, _, _⟩
  · simp [Value.ownBlock] at e
  · obtain rfl : g = r := by simpa [Value.ownBlock] using e
    exact .inr (Nat.le_trans hhi hb)
theorem row_ge {W : World} {n₀ : Nat} {e : TypeId} {g n cap : Nat} {xs : List Value} (h : W.ownsRow n₀ e 2 (.slice (some ⟨g, 0, none⟩) n cap) n xs) : n₀ ≤ g := by
  rcases h.2 with ⟨h0, _⟩ | ⟨g', cap', cur, hv, hb, _⟩
  · cases h0
  · obtain ⟨rfl, rfl⟩ : g = g' ∧ cap = cap' := by simp at hv; exact hv
    exact hb
/-- The last span grows. -/
theorem grew2 {W : World} {n₀ m₀ lo hi B : Nat} {t e : TypeId} {g n cap i : Nat} {xs : List Value} (u : Value) (hv : Boxed W B t (.slice (some ⟨g, 0, none⟩) n cap)) (hte : t ≠ e) (hrow : W.ownsRow n₀ e 2 (.slice (some ⟨g, 0, none⟩) n cap) n xs) (hm : m₀ ≤ n₀) (hhi : hi ≤ n₀) :
    Boxed (W.setCell ⟨g, i, none⟩ u) B t (.slice (some ⟨g, 0, none⟩) n cap) ∧ (W.setCell ⟨g, i, none⟩ u).ownsRow n₀ e 2 (.slice (some ⟨g, 0, none⟩) n cap) n (xs.set i u) ∧ KeepsOthers W (W.setCell ⟨g, i, none⟩ u) ∧ Below m₀ W (W.setCell ⟨g, i, none⟩ u) ∧ KeepsIn lo hi W (W.setCell ⟨g, i, none⟩ u) := by
  have hg := row_ge hrow
  refine ⟨hv.kept (grown_set W ⟨g, i, none⟩ u) (fun e' => (hv.not_row hte hrow) (by rw [e']; rfl)), row_set hrow i u, KeepsOthers.setCell _ _ _, (Below.refl m₀ W).setCell (p := ⟨g, i, none⟩) (Nat.le_trans hm hg) u, KeepsIn.grown (grown_set W ⟨g, i, none⟩ u) fun r e => by cases e; exact .inr (Nat.le_trans hhi hg)⟩
theorem flat_last (L : List (Int × Int)) (c d : Int) : (flat (L ++ [(c, d)]))[L.length * 2 + 1]? = some (.int .i64 d) := by
  rw [flat_snoc, List.getElem?_append_right (by rw [flat_len]; omega), flat_len]
  rw [show L.length * 2 + 1 - L.length * 2 = 1 by omega]; rfl
theorem flat_set (L : List (Int × Int)) (c d u : Int) : (flat (L ++ [(c, d)])).set (L.length * 2 + 1) (.int .i64 u) = flat (L ++ [(c, u)]) := by
  rw [flat_snoc, flat_snoc, List.set_append_right _ _ (by rw [flat_len]; omega), flat_len]
  rw [show L.length * 2 + 1 - L.length * 2 = 1 by omega]; rfl
theorem cell_two_new (W : World) (x y : Value) (t : TypeId) : ∀ j u, [x, y][j]? = some u → (W.alloc (.cells #[x, y] t)).cell? (Addr.add ⟨W.heap.size, 0, none⟩ j) = some u := by
  intro j u h
  have hb : blk (W.alloc (.cells #[x, y] t)) W.heap.size #[x, y] t := blk.new _ _ _
  have : (Addr.add ⟨W.heap.size, 0, none⟩ j) = ⟨W.heap.size, j, none⟩ := by simp [Addr.add]; omega
  rw [this]
  exact hb.cellIs (by simpa using h)
end Go.Proofs.Ytkmelddejdikgaa
