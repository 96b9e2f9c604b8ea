/-
  A second law on a statement whose order of evaluation is open: one of its operations may write to memory that was there. Each of the others gives one value: either in whatever world (then it may come before the writing or behind it), or in whatever world that has come of the present one by making memory (then the writing has to wait for it). Others' operations of Det.lean are used.
-/
import Derived.Test.YthkklhfnmodpnaaDet
set_option linter.unusedSimpArgs false
set_option linter.unusedVariables false
namespace Go.Proofs.Ythkklhfnmodpnaa.Dt
open Go Go.RowKit
section
variable {P : Program} {ops : Array Oper} {md : Region.Mode}
/-- In every world the operation gives v and makes memory alone. -/
def DetU (P : Program) (ops : Array Oper) (o : Oper) (v : Value) (a : Act) : Prop :=
  (Region.wanted o (yielded ops a.tmps) = true ∧ ∀ w1, DetR P (More w1) v ((execOp a.eval o).run P w1)) ∨
  (Region.wanted o (yielded ops a.tmps) = false ∧ v = undef)
theorem DetU.of_same {o : Oper} {v : Value} {a a' : Act} (hy : DetU P ops o v a) (he : execOp a'.eval o = execOp a.eval o)
    (hw : Region.wanted o (yielded ops a'.tmps) = Region.wanted o (yielded ops a.tmps)) : DetU P ops o v a' := by
  unfold DetU at *
  rw [he, hw]
  exact hy
theorem DetU.toW {o : Oper} {v : Value} {a : Act} (h : DetU P ops o v a) (w : World) : DetW P ops o v a w := by
  rcases h with ⟨h1, h2⟩ | h
  · exact .inl ⟨h1, fun w1 _ => h2 w1⟩
  · exact .inr h
theorem wpOp_putU {j : Nat} {oi oj : Oper} {v : Value} (hj : ops[j]? = some oj) (hap : oi.apart ops oj = true)
    (hsi : ∀ cs b, oi.op ≠ .select cs b) (hsj : ∀ cs b, oj.op ≠ .select cs b) {K : Act → World → Prop} {a : Act} {w : World}
    (hy : DetU P ops oi v a) (h : wpOp P ops NoQ j K (a.put oi.dst v) w) :
    wpOp P ops NoQ j (fun a' w' => DetU P ops oi v a' ∧ K (a'.put oi.dst v) w') a w := by
  obtain ⟨h1, h2, h3⟩ := Oper.apart_spec hap
  have keep : ∀ (a : Act), DetU P ops oi v a → ∀ u, DetU P ops oi v (a.put oj.dst u) := fun a hy u =>
    hy.of_same (execOp_put oi hsi a oj.dst u h3) (wanted_put oi a oj.dst u h3)
  have keepD : ∀ d, DetU P ops oi v { a with defers := d :: a.defers } := fun d => hy.of_same rfl rfl
  unfold Go.wpOp at *
  simp only [hj] at *
  rw [wanted_put oj a oi.dst v h1] at h
  split
  · rename_i hw
    simp only [hw, if_true] at h
    rcases h with h | ⟨_, _, _, h⟩
    case inr => exact h.elim
    left
    unfold Oper.wp at *
    rw [execOp_put oj hsj a oi.dst v h1] at h
    generalize (execOp a.eval oj).run P w = r at *
    cases r with
    | ok n w' =>
      cases n <;> simp only [Oper.upon] at h ⊢
      case value u => exact ⟨keep a hy u, by rw [← Act.put_comm a v u h2]; exact h⟩
      case skip => exact ⟨keep a hy _, by rw [← Act.put_comm a v undef h2]; exact h⟩
      case defer d =>
        refine ⟨keep _ (keepD d) _, ?_⟩
        rw [← Act.put_comm _ v undef h2, ← Act.put_defers]
        exact h
      case enter f args =>
        refine Calls.mono h fun e w'' he => ?_
        cases e with
        | returned u => exact ⟨keep a hy u, by rw [← Act.put_comm a v u h2]; exact he⟩
        | panicked c => exact he.elim
        | outgrown => obtain ⟨_, _, he⟩ := he; exact he.elim
      case row row args => exact Rows.mono h fun u w'' he => ⟨keep a hy u, by rw [← Act.put_comm a v u h2]; exact he⟩
    | halt x w' =>
      cases x <;> simp only [Oper.upon] at h ⊢
      exact h.elim
  · rename_i hw
    simp only [hw] at h
    exact ⟨keep a hy _, by rw [← Act.put_comm a v undef h2]; exact h⟩
/-- Whatever comes up, in whatever world that has come of w by making memory; number e alone may write. -/
def wpY (P : Program) (md : Region.Mode) (ops : Array Oper) (e : Nat) (Q : Exit → Act → World → Prop) : Nat → Array Bool → Act → World → Prop
  | 0, listed, a, w => ∀ w1, More w w1 → Region.ready md ops listed = [] ∧ Q .normal a w1
  | f + 1, listed, a, w => ∀ w1, More w w1 →
    Region.ready md ops listed ≠ [] ∧ ∀ i ∈ Region.ready md ops listed, wpOp P ops NoQ i (fun a' w' => (i ≠ e → More w1 w') ∧ wpY P md ops e Q f (listed.setIfInBounds i true) a' w') a w1
theorem wpY.more {e : Nat} {Q : Exit → Act → World → Prop} {f : Nat} {listed : Array Bool} {a : Act} {w w' : World} (h : wpY P md ops e Q f listed a w) (hm : More w w') : wpY P md ops e Q f listed a w' := by
  cases f with
  | zero => exact fun w1 h1 => h w1 (hm.trans h1)
  | succ f => exact fun w1 h1 => h w1 (hm.trans h1)
theorem wpAny_of_Y {e : Nat} {Q : Exit → Act → World → Prop} :
    ∀ (f : Nat) (listed : Array Bool) (a : Act) (w : World), wpY P md ops e Q f listed a w → wpAny P md ops Q f listed a w
  | 0, listed, a, w, h => h w (Below.refl _ _)
  | f + 1, listed, a, w, h => by
    have h := h w (Below.refl _ _)
    exact ⟨fun h0 => absurd h0 h.1, fun i hi => wpOp_noQ (wpOp_mono (fun a' w' h' => wpAny_of_Y f _ a' w' h'.2) (h.2 i hi))⟩
/-- Number i first, for which number e waits. -/
theorem wpY_firstA {e i : Nat} {oi : Oper} {v : Value} {Q : Exit → Act → World → Prop} (hi : ops[i]? = some oi) (hsel : ∀ (j : Nat) (o : Oper) cs b, ops[j]? = some o → o.op ≠ .select cs b)
    (hie : i ≠ e) (hwait : ∀ oe, ops[e]? = some oe → ∃ d ∈ oe.after, Region.binds md d = true ∧ d.on = i) :
    ∀ (f : Nat) (listed : Array Bool) (a : Act) (w : World),
      (∀ j oj, ops[j]? = some oj → j ≠ i → listed.getD j true = false → (∀ e ∈ oj.after, Region.binds md e = true → e.on ≠ i) → oi.apart ops oj = true) →
      i ∈ Region.ready md ops listed → DetW P ops oi v a w →
      wpY P md ops e Q f (listed.setIfInBounds i true) (a.put oi.dst v) w → wpY P md ops e Q (f + 1) listed a w := by
  intro f
  induction f with
  | zero =>
    intro listed a w _ hr hy H
    intro w1 h1
    refine ⟨fun h => (by rw [h] at hr; cases hr), fun j hj => ?_⟩
    by_cases hji : j = i
    · subst hji; exact (hy.more h1).wpOp hi fun w' hS' => ⟨fun _ => hS', H.more (h1.trans hS')⟩
    · have h0 := (H w1 h1).1
      have := ready_mono hj hji
      rw [h0] at this; cases this
  | succ f ih =>
    intro listed a w hfree hr hy H
    have hun := (mem_ready.1 hr).1
    intro w1 h1
    refine ⟨fun h => (by rw [h] at hr; cases hr), fun j hj => ?_⟩
    by_cases hji : j = i
    · subst hji; exact (hy.more h1).wpOp hi fun w' hS' => ⟨fun _ => hS', H.more (h1.trans hS')⟩
    · have h2 := (H w1 h1).2 j (ready_mono hj hji)
      obtain ⟨hjun, oj, hoj, hall⟩ := mem_ready.1 hj
      have hnot : ∀ e ∈ oj.after, Region.binds md e = true → e.on ≠ i := fun e he hb heq => by
        have h1 := hall e he hb
        rw [heq, getD_both hun] at h1
        cases h1
      have hje : j ≠ e := by
        rintro rfl
        obtain ⟨d, hd, hb, hon⟩ := hwait oj hoj
        exact hnot d hd hb hon
      have h3 := wpOp_putW hoj (hfree j oj hoj hji hjun hnot) (fun cs b => hsel i oi cs b hi) (fun cs b => hsel j oj cs b hoj) (hy.more h1) h2
      have hfree' : ∀ k ok, ops[k]? = some ok → k ≠ i → (listed.setIfInBounds j true).getD k true = false →
          (∀ e ∈ ok.after, Region.binds md e = true → e.on ≠ i) → oi.apart ops ok = true := fun k ok hk hki hun hno => by
        refine hfree k ok hk hki ?_ hno
        by_cases hjk : j = k
        · subst hjk; exact hjun
        · rw [getD_set_ne true hjk] at hun; exact hun
      refine wpOp_mono (fun a' w' h4 => ⟨h4.2.1, ih (listed.setIfInBounds j true) a' w' hfree' (ready_mono hr (Ne.symm hji)) (h4.1.more (h4.2.1 hje)) ?_⟩) h3
      rw [Array.setIfInBounds_comm _ _ hji]
      exact h4.2.2
/-- Number i first, that looks at no memory. -/
theorem wpY_firstB {e i : Nat} {oi : Oper} {v : Value} {Q : Exit → Act → World → Prop} (hi : ops[i]? = some oi) (hsel : ∀ (j : Nat) (o : Oper) cs b, ops[j]? = some o → o.op ≠ .select cs b) :
    ∀ (f : Nat) (listed : Array Bool) (a : Act) (w : World),
      (∀ j oj, ops[j]? = some oj → j ≠ i → listed.getD j true = false → (∀ e ∈ oj.after, Region.binds md e = true → e.on ≠ i) → oi.apart ops oj = true) →
      i ∈ Region.ready md ops listed → DetU P ops oi v a →
      wpY P md ops e Q f (listed.setIfInBounds i true) (a.put oi.dst v) w → wpY P md ops e Q (f + 1) listed a w := by
  intro f
  induction f with
  | zero =>
    intro listed a w _ hr hy H
    intro w1 h1
    refine ⟨fun h => (by rw [h] at hr; cases hr), fun j hj => ?_⟩
    by_cases hji : j = i
    · subst hji; exact (hy.toW w1).wpOp hi fun w' hS' => ⟨fun _ => hS', H.more (h1.trans hS')⟩
    · have h0 := (H w1 h1).1
      have := ready_mono hj hji
      rw [h0] at this; cases this
  | succ f ih =>
    intro listed a w hfree hr hy H
    have hun := (mem_ready.1 hr).1
    intro w1 h1
    refine ⟨fun h => (by rw [h] at hr; cases hr), fun j hj => ?_⟩
    by_cases hji : j = i
    · subst hji; exact (hy.toW w1).wpOp hi fun w' hS' => ⟨fun _ => hS', H.more (h1.trans hS')⟩
    · have h2 := (H w1 h1).2 j (ready_mono hj hji)
      obtain ⟨hjun, oj, hoj, hall⟩ := mem_ready.1 hj
      have hnot : ∀ e ∈ oj.after, Region.binds md e = true → e.on ≠ i := fun e he hb heq => by
        have h1 := hall e he hb
        rw [heq, getD_both hun] at h1
        cases h1
      have h3 := wpOp_putU hoj (hfree j oj hoj hji hjun hnot) (fun cs b => hsel i oi cs b hi) (fun cs b => hsel j oj cs b hoj) hy h2
      have hfree' : ∀ k ok, ops[k]? = some ok → k ≠ i → (listed.setIfInBounds j true).getD k true = false →
          (∀ e ∈ ok.after, Region.binds md e = true → e.on ≠ i) → oi.apart ops ok = true := fun k ok hk hki hun hno => by
        refine hfree k ok hk hki ?_ hno
        by_cases hjk : j = k
        · subst hjk; exact hjun
        · rw [getD_set_ne true hjk] at hun; exact hun
      refine wpOp_mono (fun a' w' h4 => ⟨h4.2.1, ih (listed.setIfInBounds j true) a' w' hfree' (ready_mono hr (Ne.symm hji)) h4.1 ?_⟩) h3
      rw [Array.setIfInBounds_comm _ _ hji]
      exact h4.2.2
/-- Number i may be taken now. -/
def takeYB (ops : Array Oper) (i : Nat) (listed : Array Bool) : Bool :=
  Region.noSelect ops && (Region.ready .any ops listed).contains i && Region.free .any ops listed i
/-- Number e waits for number i. -/
def waitB (ops : Array Oper) (e i : Nat) : Bool :=
  decide (i ≠ e) && (match ops[e]? with | some oe => oe.after.any fun d => Region.binds .any d && d.on == i | none => true)
theorem wpY_takeA {l : List Oper} {e : Nat} {Q : Exit → Act → World → Prop} {f : Nat} {listed : Array Bool} {a : Act} {w : World} (i : Nat) {o : Oper} (v : Value) (ho' : l[i]? = some o) (hg : o.guard = none)
    (hB : takeYB l.toArray i listed = true) (hW : waitB l.toArray e i = true) (h : ∀ w1, More w w1 → DetR P (More w1) v ((execOp a.eval o).run P w1))
    (h2 : wpY P .any l.toArray e Q f (listed.setIfInBounds i true) (a.put o.dst v) w) : wpY P .any l.toArray e Q (f + 1) listed a w := by
  have ho : l.toArray[i]? = some o := by simpa using ho'
  simp only [takeYB, Bool.and_eq_true] at hB
  obtain ⟨⟨hsel, hr⟩, hf⟩ := hB
  have hr' : i ∈ Region.ready .any l.toArray listed := by simpa using hr
  simp only [waitB, Bool.and_eq_true, decide_eq_true_eq] at hW
  refine wpY_firstA ho (Region.noSelect_spec hsel) hW.1 (fun oe hoe => ?_) f listed a w (Region.free_spec ho hf) hr' (.inl ⟨by simp [Region.wanted, hg], h⟩) h2
  have := hW.2
  rw [hoe] at this
  simp only [Array.any_eq_true, Bool.and_eq_true, beq_iff_eq] at this
  obtain ⟨k, hk, hb, hon⟩ := this
  exact ⟨_, Array.getElem_mem hk, hb, hon⟩
theorem wpY_takeB {l : List Oper} {e : Nat} {Q : Exit → Act → World → Prop} {f : Nat} {listed : Array Bool} {a : Act} {w : World} (i : Nat) {o : Oper} (v : Value) (ho' : l[i]? = some o) (hg : o.guard = none)
    (hB : takeYB l.toArray i listed = true) (h : ∀ w1, DetR P (More w1) v ((execOp a.eval o).run P w1))
    (h2 : wpY P .any l.toArray e Q f (listed.setIfInBounds i true) (a.put o.dst v) w) : wpY P .any l.toArray e Q (f + 1) listed a w := by
  have ho : l.toArray[i]? = some o := by simpa using ho'
  simp only [takeYB, Bool.and_eq_true] at hB
  obtain ⟨⟨hsel, hr⟩, hf⟩ := hB
  have hr' : i ∈ Region.ready .any l.toArray listed := by simpa using hr
  exact wpY_firstB ho (Region.noSelect_spec hsel) f listed a w (Region.free_spec ho hf) hr' (.inl ⟨by simp [Region.wanted, hg], h⟩) h2
/-- The operation that writes, where it alone may come up. -/
theorem wpY_one {l : List Oper} {e : Nat} {Q : Exit → Act → World → Prop} {f : Nat} {listed : Array Bool} {a : Act} {w : World} {o : Oper} (ho' : l[e]? = some o) (hg : o.guard = none)
    (hr : Region.ready .any l.toArray listed = [e])
    (h : ∀ w1, More w w1 → o.wp P a w1 (fun a' w' => wpY P .any l.toArray e Q f (listed.setIfInBounds e true) a' w') NoQ) : wpY P .any l.toArray e Q (f + 1) listed a w := by
  have ho : l.toArray[e]? = some o := by simpa using ho'
  intro w1 h1
  refine ⟨by rw [hr]; simp, fun j hj => ?_⟩
  rw [hr] at hj
  have : j = e := by simpa using hj
  subst this
  unfold Go.wpOp
  simp only [ho, Region.wanted, hg, if_true]
  refine .inl ?_
  have := h w1 h1
  unfold Oper.wp at *
  generalize (execOp a.eval o).run P w1 = r at *
  cases r with
  | ok n w' =>
    cases n <;> simp only [Oper.upon] at this ⊢ <;> try exact ⟨fun hn => absurd rfl hn, this⟩
    case enter f args =>
      refine Calls.mono this fun x w'' he => ?_
      cases x with
      | returned u => exact ⟨fun hn => absurd rfl hn, he⟩
      | panicked c => exact he.elim
      | outgrown => obtain ⟨_, _, he⟩ := he; exact he.elim
    case row row args => exact Rows.mono this fun u w'' he => ⟨fun hn => absurd rfl hn, he⟩
  | halt x w' =>
    cases x <;> simp only [Oper.upon] at this ⊢
    exact this.elim
theorem wpY_end {l : List Oper} {e : Nat} {Q : Exit → Act → World → Prop} {listed : Array Bool} {a : Act} {w : World} (hr : Region.ready .any l.toArray listed = []) (h : ∀ w1, More w w1 → wpList P l.toArray Q [] a w1) :
    wpY P .any l.toArray e Q 0 listed a w := fun w1 h1 => ⟨hr, h w1 h1⟩
/-- THE LAW: a region that draws its order, one of whose operations may write. -/
theorem wp_region_Y {id : Nat} {Q : Exit → Act → World → Prop} {a : Act} {w : World} {l : List Oper} (e n : Nat) (hn : l.length = n) (hm : P.follows .mixedOrders = true)
    (h : wpY P .any l.toArray e Q n (Array.replicate n false) a w.drew) : (Code.region id l.toArray true).wp P Q a w := by
  refine wp_region_any hm ?_
  have := wpAny_of_Y (Q := Q) _ _ _ _ h
  have hs : l.toArray.size = n := by simpa using hn
  rw [hs]
  exact this
end
end Go.Proofs.Ythkklhfnmodpnaa.Dt
