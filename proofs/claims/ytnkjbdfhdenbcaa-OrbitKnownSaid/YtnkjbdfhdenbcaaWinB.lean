/-
  The spans in view: Windows of the package.
-/
import Derived.RangeFuncNested
import Derived.RangeFuncBound
import Derived.RangeFuncCalls
import Derived.RangeFuncLeaves
import Derived.RangeFuncBox
import Derived.RangeFuncFrom
import Derived.RangeFuncWrites
import Derived.Sort.CutIn
import Derived.Shelf.Abstract
import Derived.Shelf.RegionOpen
import Derived.WalkKit
import Derived.OwnWalkIn
import Derived.TacticsInMore
import Derived.LoopNIn
import Derived.LoopIn
import Derived.Maps.AppendAt
import Derived.Test.YtnkjbdfhdenbcaaWinA
set_option linter.unusedSimpArgs false
set_option linter.unusedVariables false
namespace Go.Proofs.Ytnkjbdfhdenbcaa
open Go.RowKit PM Dt Go.Shelf
attribute [local go_sem] Oper.semAt_some
/-- One tick more: the last span grows, or a new one begins. -/
def winS (L : List (Int × Int)) (t : Int) : List (Int × Int) :=
  match L.getLast? with
  | some p => if p.2 = t then L.dropLast ++ [(p.1, wrap64 (p.2 + 1))] else L ++ [(t, wrap64 (t + 1))]
  | none => [(t, wrap64 (t + 1))]
def win (ts : List Int) : List (Int × Int) := ts.foldl winS []
def flat (L : List (Int × Int)) : List Value := L.flatMap fun p => [.int .i64 p.1, .int .i64 p.2]
theorem win_snoc (pre : List Int) (x : Int) : win (pre ++ [x]) = winS (win pre) x := by unfold win; rw [List.foldl_append]; rfl
theorem flat_snoc (L : List (Int × Int)) (a b : Int) : flat (L ++ [(a, b)]) = flat L ++ [.int .i64 a, .int .i64 b] := by unfold flat; rw [List.flatMap_append]; rfl
theorem flat_len (L : List (Int × Int)) : (flat L).length = L.length * 2 := by
  unfold flat
  induction L with
  | nil => rfl
  | cons p L ih => rw [List.flatMap_cons, List.length_append, ih]; simp; omega
theorem winS_nil (t : Int) : winS [] t = [(t, wrap64 (t + 1))] := rfl
theorem winS_eq (L : List (Int × Int)) (c d t : Int) (h : d = t) : winS (L ++ [(c, d)]) t = L ++ [(c, wrap64 (d + 1))] := by
  unfold winS
  rw [List.getLast?_append]
  show (if d = t then _ else _) = _
  rw [if_pos h, List.dropLast_concat]
  rfl
theorem winS_ne (L : List (Int × Int)) (c d t : Int) (h : d ≠ t) : winS (L ++ [(c, d)]) t = (L ++ [(c, d)]) ++ [(t, wrap64 (t + 1))] := by
  unfold winS
  rw [List.getLast?_append]
  show (if d = t then _ else _) = _
  rw [if_neg h]
theorem winS_len (L : List (Int × Int)) (t : Int) : (winS L t).length ≤ L.length + 1 := by
  rcases List.eq_nil_or_concat L with rfl | ⟨M, ⟨c, d⟩, rfl⟩
  · rw [winS_nil]; simp
  · rw [List.concat_eq_append]
    by_cases h : d = t
    · rw [winS_eq _ _ _ _ h]; simp
    · rw [winS_ne _ _ _ _ h]; simp
theorem win_len (ts : List Int) : (win ts).length ≤ ts.length := by
  have : ∀ (ts : List Int) (L : List (Int × Int)), (ts.foldl winS L).length ≤ L.length + ts.length := by
    intro ts
    induction ts with
    | nil => intro L; exact Nat.le_refl _
    | cons t ts ih => intro L; have := ih (winS L t); have := winS_len L t; rw [List.foldl_cons, List.length_cons]; omega
  have := this ts []
  unfold win
  simpa using this
/-- The last of an owned row's cells. -/
theorem row_cell {W : World} {n₀ : Nat} {e : TypeId} {g n cap : Nat} {xs : List Value} (h : W.ownsRow n₀ e 2 (.slice (some ⟨g, 0, none⟩) n cap) n xs) {i : Nat} {u : Value} (hx : xs[i]? = some u) : W.cell? ⟨g, i, none⟩ = some u ∧ W.frozen? ⟨g, i, none⟩ = false := by
  rcases h.2 with ⟨h0, _⟩ | ⟨g', cap', cur, hv, hb, hg, hn, hm, hs, hl⟩
  · cases h0
  · obtain ⟨rfl, rfl⟩ : g = g' ∧ cap = cap' := by simp at hv; exact hv
    have hb' : blk W g cur e := hg
    refine ⟨hb'.cellIs ?_, hb'.free i⟩
    rw [← hl] at hx
    rw [List.getElem?_take] at hx
    split at hx
    · simpa using hx
    · cases hx
theorem row_set {W : World} {n₀ : Nat} {e : TypeId} {g n cap : Nat} {xs : List Value} (h : W.ownsRow n₀ e 2 (.slice (some ⟨g, 0, none⟩) n cap) n xs) (i : Nat) (u : Value) : (W.setCell ⟨g, i, none⟩ u).ownsRow n₀ e 2 (.slice (some ⟨g, 0, none⟩) n cap) n (xs.set i u) := by
  refine ⟨by rw [List.length_set]; exact h.1, ?_⟩
  rcases h.2 with ⟨h0, _⟩ | ⟨g', cap', cur, hv, hb, hg, hn, hm, hs, hl⟩
  · cases h0
  · obtain ⟨rfl, rfl⟩ : g = g' ∧ cap = cap' := by simp at hv; exact hv
    have hb' : blk W g cur e := hg
    refine .inr ⟨g, cap, cur.setIfInBounds i u, rfl, hb, hb'.set i u, hn, hm, by rw [Array.size_setIfInBounds]; exact hs, ?_⟩
    rw [Array.toList_setIfInBounds, List.take_set, hl]
theorem grown_set (W : World) (a : Addr) (v : Value) : W.grownBy (W.setCell a v) (some a.block) :=
  ⟨rfl, rfl, rfl, (KeepsWalks.setCell W _ v).size, fun k _ hk => Below.heap_setCell _ _ _ k (fun e => hk (by rw [e]))⟩
theorem row_base {W : World} {n₀ m₀ : Nat} {e : TypeId} {size n : Nat} {v : Value} {xs : List Value} (h : W.ownsRow n₀ e size v n xs) (hm : m₀ ≤ n₀) : W.ownsRow m₀ e size v n xs := by
  refine ⟨h.1, ?_⟩
  rcases h.2 with h0 | ⟨g, cap, cur, hv, hb, hr⟩
  · exact .inl h0
  · exact .inr ⟨g, cap, cur, hv, Nat.le_trans hm hb, hr⟩
theorem appended2 {W w1 : World} {n₀ m₀ lo hi B : Nat} {t e : TypeId} {size : Nat} {v v' : Value} {k m : Nat} {xs ys : List Value} {tmp : Obj}
    (hv : Boxed W B t v) (hte : t ≠ e) (hrow : W.ownsRow n₀ e size v k xs) (hn₀ : n₀ ≤ W.heap.size) (hB : m₀ ≤ B) (hm : m₀ ≤ n₀) (hlo : B < lo) (hhi : hi ≤ n₀)
    (hown' : w1.ownsRow n₀ e size v' m ys) (hgrow : (W.alloc tmp).grownBy w1 v.ownBlock) :
    Boxed w1 B t v ∧ Boxed (w1.setCell ⟨B, 0, none⟩ v') B t v' ∧ (w1.setCell ⟨B, 0, none⟩ v').ownsRow n₀ e size v' m ys ∧ KeepsOthers W (w1.setCell ⟨B, 0, none⟩ v') ∧ Below m₀ W (w1.setCell ⟨B, 0, none⟩ v') ∧ KeepsIn lo hi W (w1.setCell ⟨B, 0, none⟩ v') := by
  obtain ⟨h1, h2, _, h4, h5⟩ := hv.appended hte (row_base hrow hm) (Nat.le_trans hm hn₀) hB (row_base hown' hm) hgrow
  refine ⟨h1, h2, hown'.kept (grownBy_setCell' w1 B v') (.inr (h1.not_row hte hown').symm), h4, h5, ?_⟩
  refine ((KeepsIn.grown (World.grownBy_alloc W tmp none) (fun r e => by cases e)).trans (KeepsIn.grown hgrow fun r e => ?_)).trans (KeepsIn.grown (grown_set w1 ⟨B, 0, none⟩ v') fun r e => by cases e; exact .inl hlo)
  rcases hrow.2 with ⟨rfl, _⟩ | ⟨g, cap, cur, rfl, hb, _, _⟩
  · simp [Value.ownBlock] at e
  · obtain rfl : g = r := by simpa [Value.ownBlock] using e
    exact .inr (Nat.le_trans hhi hb)
theorem row_ge {W : World} {n₀ : Nat} {e : TypeId} {g n cap : Nat} {xs : List Value} (h : W.ownsRow n₀ e 2 (.slice (some ⟨g, 0, none⟩) n cap) n xs) : n₀ ≤ g := by
  rcases h.2 with ⟨h0, _⟩ | ⟨g', cap', cur, hv, hb, _⟩
  · cases h0
  · obtain ⟨rfl, rfl⟩ : g = g' ∧ cap = cap' := by simp at hv; exact hv
    exact hb
/-- The last span grows. -/
theorem grew2 {W : World} {n₀ m₀ lo hi B : Nat} {t e : TypeId} {g n cap i : Nat} {xs : List Value} (u : Value) (hv : Boxed W B t (.slice (some ⟨g, 0, none⟩) n cap)) (hte : t ≠ e) (hrow : W.ownsRow n₀ e 2 (.slice (some ⟨g, 0, none⟩) n cap) n xs) (hm : m₀ ≤ n₀) (hhi : hi ≤ n₀) :
    Boxed (W.setCell ⟨g, i, none⟩ u) B t (.slice (some ⟨g, 0, none⟩) n cap) ∧ (W.setCell ⟨g, i, none⟩ u).ownsRow n₀ e 2 (.slice (some ⟨g, 0, none⟩) n cap) n (xs.set i u) ∧ KeepsOthers W (W.setCell ⟨g, i, none⟩ u) ∧ Below m₀ W (W.setCell ⟨g, i, none⟩ u) ∧ KeepsIn lo hi W (W.setCell ⟨g, i, none⟩ u) := by
  have hg := row_ge hrow
  refine ⟨hv.kept (grown_set W ⟨g, i, none⟩ u) (fun e' => (hv.not_row hte hrow) (by rw [e']; rfl)), row_set hrow i u, KeepsOthers.setCell _ _ _, (Below.refl m₀ W).setCell (p := ⟨g, i, none⟩) (Nat.le_trans hm hg) u, KeepsIn.grown (grown_set W ⟨g, i, none⟩ u) fun r e => by cases e; exact .inr (Nat.le_trans hhi hg)⟩
theorem flat_last (L : List (Int × Int)) (c d : Int) : (flat (L ++ [(c, d)]))[L.length * 2 + 1]? = some (.int .i64 d) := by
  rw [flat_snoc, List.getElem?_append_right (by rw [flat_len]; omega), flat_len]
  rw [show L.length * 2 + 1 - L.length * 2 = 1 by omega]; rfl
theorem flat_set (L : List (Int × Int)) (c d u : Int) : (flat (L ++ [(c, d)])).set (L.length * 2 + 1) (.int .i64 u) = flat (L ++ [(c, u)]) := by
  rw [flat_snoc, flat_snoc, List.set_append_right _ _ (by rw [flat_len]; omega), flat_len]
  rw [show L.length * 2 + 1 - L.length * 2 = 1 by omega]; rfl
theorem cell_two_new (W : World) (x y : Value) (t : TypeId) : ∀ j u, [x, y][j]? = some u → (W.alloc (.cells #[x, y] t)).cell? (Addr.add ⟨W.heap.size, 0, none⟩ j) = some u := by
  intro j u h
  have hb : blk (W.alloc (.cells #[x, y] t)) W.heap.size #[x, y] t := blk.new _ _ _
  have : (Addr.add ⟨W.heap.size, 0, none⟩ j) = ⟨W.heap.size, j, none⟩ := by simp [Addr.add]; omega
  rw [this]
  exact hb.cellIs (by simpa using h)
end Go.Proofs.Ytnkjbdfhdenbcaa
