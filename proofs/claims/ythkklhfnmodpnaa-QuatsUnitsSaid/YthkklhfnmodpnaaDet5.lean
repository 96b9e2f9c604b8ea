/-
  A law on a statement whose order of evaluation is open and that writes more than once: an operation that gives one value, whatever was written at or above a bound, may be taken first; of the writes is kept what memory holds, by which of them have come up. No function of the program is walked here.
-/
import Derived.Test.YthkklhfnmodpnaaDet
set_option linter.unusedSimpArgs false
set_option linter.unusedVariables false
namespace Go.Proofs.Ythkklhfnmodpnaa.Dt
open Go Go.RowKit
section
variable {P : Program} {ops : Array Oper} {md : Region.Mode} {B : Nat}
/-- In every world that has come of w, what lies below B being as it was, the operation gives v and makes memory alone. -/
def DetZ (P : Program) (ops : Array Oper) (B : Nat) (o : Oper) (v : Value) (a : Act) (w : World) : Prop :=
  (Region.wanted o (yielded ops a.tmps) = true ∧ ∀ w1, Below B w w1 → DetR P (More w1) v ((execOp a.eval o).run P w1)) ∨
  (Region.wanted o (yielded ops a.tmps) = false ∧ v = undef)
theorem DetZ.of_same {o : Oper} {v : Value} {a a' : Act} {w : World} (hy : DetZ P ops B o v a w) (he : execOp a'.eval o = execOp a.eval o)
    (hw : Region.wanted o (yielded ops a'.tmps) = Region.wanted o (yielded ops a.tmps)) : DetZ P ops B o v a' w := by
  unfold DetZ at *
  rw [he, hw]
  exact hy
theorem DetZ.more {o : Oper} {v : Value} {a : Act} {w w' : World} (hy : DetZ P ops B o v a w) (h : Below B w w') : DetZ P ops B o v a w' := by
  rcases hy with ⟨hw, hv⟩ | hy
  · exact .inl ⟨hw, fun w1 h1 => hv w1 (h.trans h1)⟩
  · exact .inr hy
theorem DetZ.toW {o : Oper} {v : Value} {a : Act} {w : World} (hy : DetZ P ops B o v a w) (hB : B ≤ w.heap.size) : DetW P ops o v a w := by
  rcases hy with ⟨hw, hv⟩ | hy
  · exact .inl ⟨hw, fun w1 h1 => hv w1 (h1.mono hB)⟩
  · exact .inr hy
theorem wpOp_putZ {j : Nat} {oi oj : Oper} {v : Value} (hj : ops[j]? = some oj) (hap : oi.apart ops oj = true)
    (hsi : ∀ cs b, oi.op ≠ .select cs b) (hsj : ∀ cs b, oj.op ≠ .select cs b) {K : Act → World → Prop} {a : Act} {w w0 : World}
    (hy : DetZ P ops B oi v a w0) (h : wpOp P ops NoQ j K (a.put oi.dst v) w) :
    wpOp P ops NoQ j (fun a' w' => DetZ P ops B oi v a' w0 ∧ K (a'.put oi.dst v) w') a w := by
  obtain ⟨h1, h2, h3⟩ := Oper.apart_spec hap
  have keep : ∀ (a : Act), DetZ P ops B oi v a w0 → ∀ u, DetZ P ops B oi v (a.put oj.dst u) w0 := fun a hy u =>
    hy.of_same (execOp_put oi hsi a oj.dst u h3) (wanted_put oi a oj.dst u h3)
  have keepD : ∀ d, DetZ P ops B oi v { a with defers := d :: a.defers } w0 := fun d => hy.of_same rfl rfl
  unfold Go.wpOp at *
  simp only [hj] at *
  rw [wanted_put oj a oi.dst v h1] at h
  split
  · rename_i hw
    simp only [hw, if_true] at h
    rcases h with h | ⟨_, _, _, h⟩
    case inr => exact h.elim
    left
    unfold Oper.wp at *
    rw [execOp_put oj hsj a oi.dst v h1] at h
    generalize (execOp a.eval oj).run P w = r at *
    cases r with
    | ok n w' =>
      cases n <;> simp only [Oper.upon] at h ⊢
      case value u => exact ⟨keep a hy u, by rw [← Act.put_comm a v u h2]; exact h⟩
      case skip => exact ⟨keep a hy _, by rw [← Act.put_comm a v undef h2]; exact h⟩
      case defer d =>
        refine ⟨keep _ (keepD d) _, ?_⟩
        rw [← Act.put_comm _ v undef h2, ← Act.put_defers]
        exact h
      case enter f args =>
        refine Calls.mono h fun e w'' he => ?_
        cases e with
        | returned u => exact ⟨keep a hy u, by rw [← Act.put_comm a v u h2]; exact he⟩
        | panicked c => exact he.elim
        | outgrown => obtain ⟨_, _, he⟩ := he; exact he.elim
      case row row args => exact Rows.mono h fun u w'' he => ⟨keep a hy u, by rw [← Act.put_comm a v u h2]; exact he⟩
    | halt x w' =>
      cases x <;> simp only [Oper.upon] at h ⊢
      exact h.elim
  · rename_i hw
    simp only [hw] at h
    exact ⟨keep a hy _, by rw [← Act.put_comm a v undef h2]; exact h⟩
/-- What memory holds, by which of the marked operations have come up. -/
def Gm (marks : List Nat) (H : List Bool → World → Prop) (listed : Array Bool) (w : World) : Prop := H (marks.map fun m => listed.getD m false) w
theorem Gm_set {marks : List Nat} {H : List Bool → World → Prop} {i : Nat} (hi : marks.contains i = false) (listed : Array Bool) : Gm marks H (listed.setIfInBounds i true) = Gm marks H listed := by
  unfold Gm
  funext w
  congr 1
  apply List.map_congr_left
  intro m hm
  have : i ≠ m := by
    rintro rfl
    have : marks.contains i = true := by simpa using hm
    rw [hi] at this; cases this
  exact getD_set_ne false this
def wpZ (P : Program) (md : Region.Mode) (ops : Array Oper) (B : Nat) (G : Array Bool → World → Prop) (Q : Exit → Act → World → Prop) : Nat → Array Bool → Act → World → Prop
  | 0, listed, a, w => ∀ w1, Below B w w1 → G listed w1 → Region.ready md ops listed = [] ∧ wpList P ops Q [] a w1
  | f + 1, listed, a, w => ∀ w1, Below B w w1 → G listed w1 →
    Region.ready md ops listed ≠ [] ∧ ∀ i ∈ Region.ready md ops listed, wpOp P ops NoQ i (fun a' w' => Below B w1 w' ∧ G (listed.setIfInBounds i true) w' ∧ wpZ P md ops B G Q f (listed.setIfInBounds i true) a' w') a w1
variable {G : Array Bool → World → Prop} {Q : Exit → Act → World → Prop}
theorem wpZ.more {f : Nat} {listed : Array Bool} {a : Act} {w w' : World} (h : wpZ P md ops B G Q f listed a w) (hm : Below B w w') : wpZ P md ops B G Q f listed a w' := by
  cases f with
  | zero => exact fun w1 h1 => h w1 (hm.trans h1)
  | succ f => exact fun w1 h1 => h w1 (hm.trans h1)
theorem wpAny_of_Z : ∀ (f : Nat) (listed : Array Bool) (a : Act) (w : World), G listed w → wpZ P md ops B G Q f listed a w → wpAny P md ops Q f listed a w
  | 0, listed, a, w, hg, h => h w (Below.refl _ _) hg
  | f + 1, listed, a, w, hg, h => by
    have h := h w (Below.refl _ _) hg
    exact ⟨fun h0 => absurd h0 h.1, fun i hi => wpOp_noQ (wpOp_mono (fun a' w' h' => wpAny_of_Z f _ a' w' h'.2.1 h'.2.2) (h.2 i hi))⟩
theorem wpZ_first {i : Nat} {oi : Oper} {v : Value} (hi : ops[i]? = some oi) (hsel : ∀ (j : Nat) (o : Oper) cs b, ops[j]? = some o → o.op ≠ .select cs b)
    (hGi : ∀ listed, G (listed.setIfInBounds i true) = G listed) (hGm : ∀ listed w w', G listed w → More w w' → G listed w') :
    ∀ (f : Nat) (listed : Array Bool) (a : Act) (w : World), B ≤ w.heap.size →
      (∀ j oj, ops[j]? = some oj → j ≠ i → listed.getD j true = false → (∀ e ∈ oj.after, Region.binds md e = true → e.on ≠ i) → oi.apart ops oj = true) →
      i ∈ Region.ready md ops listed → DetZ P ops B oi v a w →
      wpZ P md ops B G Q f (listed.setIfInBounds i true) (a.put oi.dst v) w → wpZ P md ops B G Q (f + 1) listed a w := by
  intro f
  induction f with
  | zero =>
    intro listed a w hBw _ hr hy H w1 h1 g1
    have hun := (mem_ready.1 hr).1
    refine ⟨fun h => (by rw [h] at hr; cases hr), fun j hj => ?_⟩
    by_cases hji : j = i
    · subst hji
      refine (((hy.more h1).toW (Nat.le_trans hBw h1.size)).wpOp hi fun w' hS' => ?_)
      have hb : Below B w1 w' := hS'.mono (Nat.le_trans hBw h1.size)
      exact ⟨hb, by rw [hGi]; exact hGm _ _ _ g1 hS', H.more (h1.trans hb)⟩
    · have := (H w1 h1 (by rw [hGi]; exact g1)).1
      have h3 := ready_mono hj hji
      rw [this] at h3; cases h3
  | succ f ih =>
    intro listed a w hBw hfree hr hy H w1 h1 g1
    have hun := (mem_ready.1 hr).1
    refine ⟨fun h => (by rw [h] at hr; cases hr), fun j hj => ?_⟩
    by_cases hji : j = i
    · subst hji
      refine (((hy.more h1).toW (Nat.le_trans hBw h1.size)).wpOp hi fun w' hS' => ?_)
      have hb : Below B w1 w' := hS'.mono (Nat.le_trans hBw h1.size)
      exact ⟨hb, by rw [hGi]; exact hGm _ _ _ g1 hS', H.more (h1.trans hb)⟩
    · have h2 := (H w1 h1 (by rw [hGi]; exact g1)).2 j (ready_mono hj hji)
      obtain ⟨hjun, oj, hoj, hall⟩ := mem_ready.1 hj
      have hnot : ∀ e ∈ oj.after, Region.binds md e = true → e.on ≠ i := fun e he hb heq => by
        have h1 := hall e he hb
        rw [heq, getD_both hun] at h1
        cases h1
      have h3 := wpOp_putZ hoj (hfree j oj hoj hji hjun hnot) (fun cs b => hsel i oi cs b hi) (fun cs b => hsel j oj cs b hoj) (hy.more h1) h2
      have hfree' : ∀ k ok, ops[k]? = some ok → k ≠ i → (listed.setIfInBounds j true).getD k true = false →
          (∀ e ∈ ok.after, Region.binds md e = true → e.on ≠ i) → oi.apart ops ok = true := fun k ok hk hki hun hno => by
        refine hfree k ok hk hki ?_ hno
        by_cases hjk : j = k
        · subst hjk; exact hjun
        · rw [getD_set_ne true hjk] at hun; exact hun
      refine wpOp_mono (fun a' w' h4 => ?_) h3
      obtain ⟨hz, hb, hg, hw⟩ := h4
      rw [Array.setIfInBounds_comm _ _ (Ne.symm hji), hGi] at hg
      refine ⟨hb, hg, ih (listed.setIfInBounds j true) a' w' (Nat.le_trans hBw (h1.trans hb).size) hfree' (ready_mono hr (Ne.symm hji)) (hz.more hb) ?_⟩
      rw [Array.setIfInBounds_comm _ _ hji]
      exact hw
end
section
variable {P : Program}
def takeZB (ops : Array Oper) (i : Nat) (listed : Array Bool) : Bool :=
  Region.noSelect ops && (Region.ready .any ops listed).contains i && Region.free .any ops listed i
/-- The walk from here on. -/
def wpZI (P : Program) (l : List Oper) (B : Nat) (marks : List Nat) (H : List Bool → World → Prop) (Q : Exit → Act → World → Prop) (f : Nat) (listed : Array Bool) (a : Act) (w : World) : Prop :=
  B ≤ w.heap.size → (∀ bs w w', H bs w → More w w' → H bs w') → wpZ P .any l.toArray B (Gm marks H) Q f listed a w
/-- TAKE NUMBER i FIRST. -/
theorem wpZ_take {l : List Oper} {B : Nat} {marks : List Nat} {H : List Bool → World → Prop} {Q : Exit → Act → World → Prop} {f : Nat} {listed : Array Bool} {a : Act} {w : World} (i : Nat) {o : Oper} (v : Value) (ho' : l[i]? = some o) (hg : o.guard = none)
    (hB : takeZB l.toArray i listed = true) (hM : marks.contains i = false) (h : ∀ w1, Below B w w1 → DetR P (More w1) v ((execOp a.eval o).run P w1))
    (h2 : wpZI P l B marks H Q f (listed.setIfInBounds i true) (a.put o.dst v) w) : wpZI P l B marks H Q (f + 1) listed a w := by
  have ho : l.toArray[i]? = some o := by simpa using ho'
  intro hBw hm
  simp only [takeZB, Bool.and_eq_true] at hB
  obtain ⟨⟨hsel, hr⟩, hf⟩ := hB
  have hr' : i ∈ Region.ready .any l.toArray listed := by simpa using hr
  exact wpZ_first ho (Region.noSelect_spec hsel) (fun listed => Gm_set hM listed) (fun _ _ _ h k => hm _ _ _ h k) f listed a w hBw (Region.free_spec ho hf) hr' (.inl ⟨by simp [Region.wanted, hg], h⟩) (h2 hBw hm)
/-- One alone may come up now; it may write at or above the bound. -/
theorem wpZ_one {l : List Oper} {B : Nat} {marks : List Nat} {H : List Bool → World → Prop} {Q : Exit → Act → World → Prop} {f : Nat} {listed : Array Bool} {a : Act} {w : World} (i : Nat) {o : Oper} (ho' : l[i]? = some o) (hg : o.guard = none)
    (hr : Region.ready .any l.toArray listed = [i]) (bs bs' : List Bool) (hb : (marks.map fun m => listed.getD m false) = bs) (hb' : (marks.map fun m => (listed.setIfInBounds i true).getD m false) = bs')
    (h : ∀ w1, Below B w w1 → H bs w1 → ∀ K : Act → World → Prop, (∀ a' w', Below B w1 w' → H bs' w' → wpZI P l B marks H Q f (listed.setIfInBounds i true) a' w' → K a' w') → o.wp P a w1 K NoQ) : wpZI P l B marks H Q (f + 1) listed a w := by
  have ho : l.toArray[i]? = some o := by simpa using ho'
  intro hBw hm w1 h1 g1
  refine ⟨by rw [hr]; simp, fun j hj => ?_⟩
  rw [hr] at hj
  have : j = i := by simpa using hj
  subst this
  unfold Go.wpOp
  simp only [ho, Region.wanted, hg, if_true]
  unfold Gm at g1 ⊢
  rw [hb] at g1
  exact .inl (h w1 h1 g1 _ fun a' w' hm' hx hz => ⟨hm', by rw [hb']; exact hx, hz (Nat.le_trans hBw (h1.trans hm').size) hm⟩)
/-- The end. -/
theorem wpZ_end {l : List Oper} {B : Nat} {marks : List Nat} {H : List Bool → World → Prop} {Q : Exit → Act → World → Prop} {listed : Array Bool} {a : Act} {w : World} (hr : Region.ready .any l.toArray listed = []) (bs : List Bool) (hb : (marks.map fun m => listed.getD m false) = bs)
    (h : ∀ w1, Below B w w1 → H bs w1 → wpList P l.toArray Q [] a w1) : wpZI P l B marks H Q 0 listed a w := fun _ _ w1 h1 g1 => ⟨hr, h w1 h1 (by unfold Gm at g1; rw [hb] at g1; exact g1)⟩
/-- THE LAW: a region of n operations that draws its order; the marked ones write at or above B. -/
theorem wp_region_Z {id : Nat} {Q : Exit → Act → World → Prop} {a : Act} {w : World} {l : List Oper} (n B : Nat) (marks : List Nat) (H : List Bool → World → Prop) (hn : l.length = n) (hm : P.follows .mixedOrders = true)
    (hBw : B ≤ w.heap.size) (hH : ∀ bs w w', H bs w → More w w' → H bs w') (h0 : H (marks.map fun m => (Array.replicate n false).getD m false) w.drew)
    (h : wpZI P l B marks H Q n (Array.replicate n false) a w.drew) : (Code.region id l.toArray true).wp P Q a w := by
  refine wp_region_any hm ?_
  have := wpAny_of_Z (Q := Q) (md := .any) (ops := l.toArray) (B := B) (G := Gm marks H) n (Array.replicate n false) a w.drew h0 (h hBw hH)
  have hs : l.toArray.size = n := by simpa using hn
  rw [hs]
  exact this
end
end Go.Proofs.Ythkklhfnmodpnaa.Dt
