/-
  A law on a statement whose order of evaluation is open. An operation that gives one value, and only makes memory, in whatever world that has come of the present one by making memory, may be taken first (the library's laws of this kind ask that the world stays as it is, or are for loads alone). Other operations (alloc) are branched over; a forced tail (stores) is walked as it stands. No function of the program is walked here.
-/
import Derived.StillTail
import Derived.WalkKit
import Derived.Handy
set_option linter.unusedSimpArgs false
set_option linter.unusedVariables false
namespace Go.Proofs.Ythkklhfnmodpnaa.Dt
open Go Go.RowKit
section
variable {P : Program} {ops : Array Oper} {md : Region.Mode} {S : World → Prop}

/-- The run of an operation gives v and ends in a world that meets S. -/
def DetR (P : Program) (S : World → Prop) (v : Value) : Result Next → Prop
  | .ok (.value u) w => u = v ∧ S w
  | .ok .skip w => v = undef ∧ S w
  | .ok (.enter f args) w => Calls P f args w fun e w' => e = .returned v ∧ S w'
  | _ => False
theorem DetR_value {v u : Value} {w : World} : DetR P S v (.ok (.value u) w) = (u = v ∧ S w) := rfl
theorem DetR_enter {v : Value} {w : World} {f : FuncId} {args : Array Value} : DetR P S v (.ok (.enter f args) w) = Calls P f args w fun e w' => e = .returned v ∧ S w' := rfl

/-- Everything that was there is as it was. -/
abbrev More (w w' : World) : Prop := Below w.heap.size w w'
theorem More.trans {a b c : World} (h : More a b) (k : More b c) : More a c := Below.trans h (Below.mono k h.size)

/-- In every world that has come of w by making memory, the operation gives v and makes memory alone. -/
def DetW (P : Program) (ops : Array Oper) (o : Oper) (v : Value) (a : Act) (w : World) : Prop :=
  (Region.wanted o (yielded ops a.tmps) = true ∧ ∀ w1, More w w1 → DetR P (More w1) v ((execOp a.eval o).run P w1)) ∨
  (Region.wanted o (yielded ops a.tmps) = false ∧ v = undef)
theorem DetW.of_same {o : Oper} {v : Value} {a a' : Act} {w : World} (hy : DetW P ops o v a w) (he : execOp a'.eval o = execOp a.eval o)
    (hw : Region.wanted o (yielded ops a'.tmps) = Region.wanted o (yielded ops a.tmps)) : DetW P ops o v a' w := by
  unfold DetW at *
  rw [he, hw]
  exact hy
theorem DetW.more {o : Oper} {v : Value} {a : Act} {w w' : World} (hy : DetW P ops o v a w) (h : More w w') : DetW P ops o v a w' := by
  rcases hy with ⟨hw, hv⟩ | hy
  · exact .inl ⟨hw, fun w1 h1 => hv w1 (h.trans h1)⟩
  · exact .inr hy

/-- Nothing but the way on. -/
def NoQ : Exit → Act → World → Prop := fun _ _ _ => False
theorem wpOp_noQ {Q : Exit → Act → World → Prop} {i : Nat} {K : Act → World → Prop} {a : Act} {w : World} (h : wpOp P ops NoQ i K a w) : wpOp P ops Q i K a w := by
  unfold wpOp at *
  cases ho : ops[i]? with
  | none => simp only [ho] at h ⊢; exact h
  | some o =>
    simp only [ho] at h ⊢
    split
    · rename_i hw
      simp only [hw, if_true] at h
      rcases h with h | ⟨_, _, _, h⟩
      · left
        unfold Oper.wp at *
        generalize (execOp a.eval o).run P w = r at *
        cases r with
        | ok n w' =>
          cases n <;> simp only [Oper.upon] at h ⊢ <;> try exact h
          case enter f args =>
            refine Calls.mono h fun e w'' he => ?_
            cases e with
            | returned u => exact he
            | panicked c => exact he.elim
            | outgrown => obtain ⟨_, _, he⟩ := he; exact he.elim
        | halt x w' =>
          cases x <;> simp only [Oper.upon] at h ⊢
          exact h.elim
      · exact h.elim
    · rename_i hw
      simp only [hw] at h
      exact h

theorem DetW.wpOp {i : Nat} {o : Oper} {v : Value} {a : Act} {w : World} (hi : ops[i]? = some o) (hy : DetW P ops o v a w)
    {K : Act → World → Prop} (h : ∀ w', More w w' → K (a.put o.dst v) w') : wpOp P ops NoQ i K a w := by
  unfold Go.wpOp
  simp only [hi]
  rcases hy with ⟨hw, hv⟩ | ⟨hw, rfl⟩
  · simp only [hw, if_true]
    left
    have := hv w (Below.refl _ _)
    unfold Oper.wp
    generalize (execOp a.eval o).run P w = r at *
    cases r with
    | ok n w' =>
      cases n <;> simp only [DetR] at this <;> simp only [Oper.upon]
      case value u => obtain ⟨rfl, hs⟩ := this; exact h _ hs
      case skip => obtain ⟨rfl, hs⟩ := this; exact h _ hs
      case enter f args =>
        refine Calls.mono this fun e w'' he => ?_
        obtain ⟨rfl, hs⟩ := he
        exact h _ hs
    | halt x w' => exact this.elim
  · simp only [hw, Bool.false_eq_true, if_false]; exact h _ (Below.refl _ _)

theorem wpOp_putW {j : Nat} {oi oj : Oper} {v : Value} (hj : ops[j]? = some oj) (hap : oi.apart ops oj = true)
    (hsi : ∀ cs b, oi.op ≠ .select cs b) (hsj : ∀ cs b, oj.op ≠ .select cs b) {K : Act → World → Prop} {a : Act} {w : World}
    (hy : DetW P ops oi v a w) (h : wpOp P ops NoQ j K (a.put oi.dst v) w) :
    wpOp P ops NoQ j (fun a' w' => DetW P ops oi v a' w ∧ K (a'.put oi.dst v) w') a w := by
  obtain ⟨h1, h2, h3⟩ := Oper.apart_spec hap
  have keep : ∀ (a : Act), DetW P ops oi v a w → ∀ u, DetW P ops oi v (a.put oj.dst u) w := fun a hy u =>
    hy.of_same (execOp_put oi hsi a oj.dst u h3) (wanted_put oi a oj.dst u h3)
  have keepD : ∀ d, DetW P ops oi v { a with defers := d :: a.defers } w := fun d => hy.of_same rfl rfl
  unfold Go.wpOp at *
  simp only [hj] at *
  rw [wanted_put oj a oi.dst v h1] at h
  split
  · rename_i hw
    simp only [hw, if_true] at h
    rcases h with h | ⟨_, _, _, h⟩
    case inr => exact h.elim
    left
    unfold Oper.wp at *
    rw [execOp_put oj hsj a oi.dst v h1] at h
    generalize (execOp a.eval oj).run P w = r at *
    cases r with
    | ok n w' =>
      cases n <;> simp only [Oper.upon] at h ⊢
      case value u => exact ⟨keep a hy u, by rw [← Act.put_comm a v u h2]; exact h⟩
      case skip => exact ⟨keep a hy _, by rw [← Act.put_comm a v undef h2]; exact h⟩
      case defer d =>
        refine ⟨keep _ (keepD d) _, ?_⟩
        rw [← Act.put_comm _ v undef h2, ← Act.put_defers]
        exact h
      case enter f args =>
        refine Calls.mono h fun e w'' he => ?_
        cases e with
        | returned u => exact ⟨keep a hy u, by rw [← Act.put_comm a v u h2]; exact he⟩
        | panicked c => exact he.elim
        | outgrown => obtain ⟨_, _, he⟩ := he; exact he.elim
      case row row args => exact Rows.mono h fun u w'' he => ⟨keep a hy u, by rw [← Act.put_comm a v u h2]; exact he⟩
    | halt x w' =>
      cases x <;> simp only [Oper.upon] at h ⊢
      exact h.elim
  · rename_i hw
    simp only [hw] at h
    exact ⟨keep a hy _, by rw [← Act.put_comm a v undef h2]; exact h⟩


/-- Whatever comes up among the first n operations, in whatever world that has come of w by making memory; L behind f of them. -/
def wpX (P : Program) (md : Region.Mode) (ops : Array Oper) (n : Nat) (L : Array Bool → Act → World → Prop) : Nat → Array Bool → Act → World → Prop
  | 0, listed, a, w => ∀ w1, More w w1 → L listed a w1
  | f + 1, listed, a, w => ∀ w1, More w w1 →
    Region.ready md ops listed ≠ [] ∧ ∀ i ∈ Region.ready md ops listed, i < n ∧ wpOp P ops NoQ i (fun a' w' => More w1 w' ∧ wpX P md ops n L f (listed.setIfInBounds i true) a' w') a w1
theorem wpX.more {n : Nat} {L : Array Bool → Act → World → Prop} {f : Nat} {listed : Array Bool} {a : Act} {w w' : World} (h : wpX P md ops n L f listed a w) (hm : More w w') : wpX P md ops n L f listed a w' := by
  cases f with
  | zero => exact fun w1 h1 => h w1 (hm.trans h1)
  | succ f => exact fun w1 h1 => h w1 (hm.trans h1)
theorem wpAny_of_X {n g : Nat} {L : Array Bool → Act → World → Prop} {Q : Exit → Act → World → Prop} (hL : ∀ listed a w, L listed a w → wpAny P md ops Q g listed a w) :
    ∀ (f : Nat) (listed : Array Bool) (a : Act) (w : World), wpX P md ops n L f listed a w → wpAny P md ops Q (f + g) listed a w
  | 0, listed, a, w, h => by rw [Nat.zero_add]; exact hL _ _ _ (h w (Below.refl _ _))
  | f + 1, listed, a, w, h => by
    rw [show f + 1 + g = (f + g) + 1 by omega]
    have h := h w (Below.refl _ _)
    exact ⟨fun h0 => absurd h0 h.1, fun i hi => wpOp_noQ (wpOp_mono (fun a' w' h' => wpAny_of_X hL f _ a' w' h'.2) (h.2 i hi).2)⟩

theorem wpX_first {n i : Nat} {oi : Oper} {v : Value} {L : Array Bool → Act → World → Prop} (hi : ops[i]? = some oi) (hsel : ∀ (j : Nat) (o : Oper) cs b, ops[j]? = some o → o.op ≠ .select cs b)
    (hs : Region.sinkB md ops n = true) (hc : Region.chainB md ops n = true) (hn : n < ops.size) (hin : i < n)
    (hdone : ∀ listed a w, L listed a w → ∀ j ∈ Region.ready md ops listed, n ≤ j) :
    ∀ (f : Nat) (listed : Array Bool) (a : Act) (w : World), HeadInv md ops n listed →
      (∀ j oj, ops[j]? = some oj → j ≠ i → listed.getD j true = false → (∀ e ∈ oj.after, Region.binds md e = true → e.on ≠ i) → oi.apart ops oj = true) →
      i ∈ Region.ready md ops listed → DetW P ops oi v a w →
      wpX P md ops n L f (listed.setIfInBounds i true) (a.put oi.dst v) w → wpX P md ops n L (f + 1) listed a w := by
  intro f
  induction f with
  | zero =>
    intro listed a w inv _ hr hy H
    have hun := (mem_ready.1 hr).1
    intro w1 h1
    refine ⟨fun h => (by rw [h] at hr; cases hr), fun j hj => ?_⟩
    have hjn : j < n := by
      rcases Nat.lt_or_ge j n with h | h
      · exact h
      · exact absurd hj (tail_waits hs hc hn inv _ i rfl hin hun j h)
    refine ⟨hjn, ?_⟩
    by_cases hji : j = i
    · subst hji; exact (hy.more h1).wpOp hi fun w' hS' => ⟨hS', H.more (h1.trans hS')⟩
    · have := hdone _ _ _ (H w1 h1) j (ready_mono hj hji)
      omega
  | succ f ih =>
    intro listed a w inv hfree hr hy H
    have hun := (mem_ready.1 hr).1
    intro w1 h1
    refine ⟨fun h => (by rw [h] at hr; cases hr), fun j hj => ?_⟩
    have hjn : j < n := by
      rcases Nat.lt_or_ge j n with h | h
      · exact h
      · exact absurd hj (tail_waits hs hc hn inv _ i rfl hin hun j h)
    refine ⟨hjn, ?_⟩
    by_cases hji : j = i
    · subst hji; exact (hy.more h1).wpOp hi fun w' hS' => ⟨hS', H.more (h1.trans hS')⟩
    · have h2 := ((H w1 h1).2 j (ready_mono hj hji)).2
      obtain ⟨hjun, oj, hoj, hall⟩ := mem_ready.1 hj
      have hnot : ∀ e ∈ oj.after, Region.binds md e = true → e.on ≠ i := fun e he hb heq => by
        have h1 := hall e he hb
        rw [heq, getD_both hun] at h1
        cases h1
      have h3 := wpOp_putW hoj (hfree j oj hoj hji hjun hnot) (fun cs b => hsel i oi cs b hi) (fun cs b => hsel j oj cs b hoj) (hy.more h1) h2
      have hfree' : ∀ k ok, ops[k]? = some ok → k ≠ i → (listed.setIfInBounds j true).getD k true = false →
          (∀ e ∈ ok.after, Region.binds md e = true → e.on ≠ i) → oi.apart ops ok = true := fun k ok hk hki hun hno => by
        refine hfree k ok hk hki ?_ hno
        by_cases hjk : j = k
        · subst hjk; exact hjun
        · rw [getD_set_ne true hjk] at hun; exact hun
      refine wpOp_mono (fun a' w' h4 => ⟨h4.2.1, ih (listed.setIfInBounds j true) a' w' (inv.set hj hjn) hfree' (ready_mono hr (Ne.symm hji)) (h4.1.more h4.2.1) ?_⟩) h3
      rw [Array.setIfInBounds_comm _ _ hji]
      exact h4.2.2

/-- The walk from here on, in the form in which it is done: what has come up is kept with it. -/
def wpXI (P : Program) (ops : Array Oper) (n : Nat) (Q : Exit → Act → World → Prop) (f : Nat) (listed : Array Bool) (a : Act) (w : World) : Prop :=
  HeadInv .any ops n listed → wpX P .any ops n (fun listed' a' w' => Region.seqB .any ops (ops.size - n) n listed' = true ∧ wpList P ops Q (ops.toList.drop n) a' w') f listed a w

/-- What a region must be for this law. -/
def fitB (ops : Array Oper) (n : Nat) : Bool := Region.noSelect ops && decide (n < ops.size) && Region.sinkB .any ops n && Region.chainB .any ops n
/-- Number i may be taken now. -/
def takeB (ops : Array Oper) (n i : Nat) (listed : Array Bool) : Bool :=
  fitB ops n && decide (i < n) && (Region.ready .any ops listed).contains i && Region.free .any ops listed i

/-- TAKE NUMBER i FIRST. -/
theorem wpX_take {l : List Oper} {n : Nat} {Q : Exit → Act → World → Prop} {f : Nat} {listed : Array Bool} {a : Act} {w : World} (i : Nat) {o : Oper} (v : Value) (ho' : l[i]? = some o) (hg : o.guard = none)
    (hB : takeB l.toArray n i listed = true) (h : ∀ w1, More w w1 → DetR P (More w1) v ((execOp a.eval o).run P w1))
    (h2 : wpXI P l.toArray n Q f (listed.setIfInBounds i true) (a.put o.dst v) w) : wpXI P l.toArray n Q (f + 1) listed a w := by
  have ho : l.toArray[i]? = some o := by simpa using ho'
  intro inv
  simp only [takeB, fitB, Bool.and_eq_true, decide_eq_true_eq] at hB
  obtain ⟨⟨⟨⟨⟨⟨hsel, hn⟩, hs⟩, hc⟩, hin⟩, hr⟩, hf⟩ := hB
  have hr' : i ∈ Region.ready .any l.toArray listed := by simpa using hr
  exact wpX_first ho (Region.noSelect_spec hsel) hs hc hn hin (fun listed' a' w' hL => seqB_ready hL.1) f listed a w inv (Region.free_spec ho hf) hr'
    (.inl ⟨by simp [Region.wanted, hg], h⟩) (h2 (inv.set hr' hin))
/-- BRANCH: one alone may come up now. -/
theorem wpX_one {l : List Oper} {n : Nat} {Q : Exit → Act → World → Prop} {f : Nat} {listed : Array Bool} {a : Act} {w : World} (i : Nat) {o : Oper} (ho' : l[i]? = some o) (hg : o.guard = none) (hin : i < n)
    (hr : Region.ready .any l.toArray listed = [i])
    (h : ∀ w1, More w w1 → ∀ K : Act → World → Prop, (∀ a' w', More w1 w' → wpXI P l.toArray n Q f (listed.setIfInBounds i true) a' w' → K a' w') → o.wp P a w1 K NoQ) : wpXI P l.toArray n Q (f + 1) listed a w := by
  have ho : l.toArray[i]? = some o := by simpa using ho'
  intro inv w1 h1
  refine ⟨by rw [hr]; simp, fun j hj => ?_⟩
  have hj' := hj
  rw [hr] at hj
  have : j = i := by simpa using hj
  subst this
  refine ⟨hin, ?_⟩
  unfold Go.wpOp
  simp only [ho, Region.wanted, hg, if_true]
  exact .inl (h w1 h1 _ fun a' w' hm hx => ⟨hm, hx (inv.set hj' hin)⟩)
/-- BRANCH: one of two may come up now. -/
theorem wpX_two {l : List Oper} {n : Nat} {Q : Exit → Act → World → Prop} {f : Nat} {listed : Array Bool} {a : Act} {w : World} (i j : Nat) {oi oj : Oper} (hoi' : l[i]? = some oi) (hgi : oi.guard = none) (hoj' : l[j]? = some oj) (hgj : oj.guard = none) (hin : i < n) (hjn : j < n)
    (hr : Region.ready .any l.toArray listed = [i, j])
    (h1 : ∀ w1, More w w1 → ∀ K : Act → World → Prop, (∀ a' w', More w1 w' → wpXI P l.toArray n Q f (listed.setIfInBounds i true) a' w' → K a' w') → oi.wp P a w1 K NoQ)
    (h2 : ∀ w1, More w w1 → ∀ K : Act → World → Prop, (∀ a' w', More w1 w' → wpXI P l.toArray n Q f (listed.setIfInBounds j true) a' w' → K a' w') → oj.wp P a w1 K NoQ) : wpXI P l.toArray n Q (f + 1) listed a w := by
  have hoi : l.toArray[i]? = some oi := by simpa using hoi'
  have hoj : l.toArray[j]? = some oj := by simpa using hoj'
  intro inv w1 hm1
  refine ⟨by rw [hr]; simp, fun k hk => ?_⟩
  have hk' := hk
  rw [hr] at hk
  have : k = i ∨ k = j := by simpa using hk
  rcases this with rfl | rfl
  · refine ⟨hin, ?_⟩
    unfold Go.wpOp
    simp only [hoi, Region.wanted, hgi, if_true]
    exact .inl (h1 w1 hm1 _ fun a' w' hm hx => ⟨hm, hx (inv.set hk' hin)⟩)
  · refine ⟨hjn, ?_⟩
    unfold Go.wpOp
    simp only [hoj, Region.wanted, hgj, if_true]
    exact .inl (h2 w1 hm1 _ fun a' w' hm hx => ⟨hm, hx (inv.set hk' hjn)⟩)
/-- THE TAIL. -/
theorem wpX_tail {n : Nat} {Q : Exit → Act → World → Prop} {listed : Array Bool} {a : Act} {w : World} (hB : Region.seqB .any ops (ops.size - n) n listed = true)
    (h : ∀ w1, More w w1 → wpList P ops Q (ops.toList.drop n) a w1) : wpXI P ops n Q 0 listed a w := fun _ w1 h1 => ⟨hB, h w1 h1⟩

/-- THE LAW: a region that draws its order; of its first n operations those that give one value are taken in whatever order serves; its tail as it stands. -/
theorem wp_region_X {id : Nat} {Q : Exit → Act → World → Prop} {a : Act} {w : World} {l : List Oper} (n : Nat) (hm : P.follows .mixedOrders = true) (hB : fitB l.toArray n = true)
    (h : wpXI P l.toArray n Q n (Array.replicate l.toArray.size false) a w.drew) : (Code.region id l.toArray true).wp P Q a w := by
  simp only [fitB, Bool.and_eq_true, decide_eq_true_eq] at hB
  obtain ⟨⟨⟨hsel, hn⟩, hs⟩, hc⟩ := hB
  have hn' : n < l.length := by simpa using hn
  have hdl : (l.drop n).length = l.toArray.size - n := by simp
  have inv0 : HeadInv .any l.toArray n (Array.replicate l.toArray.size false) :=
    ⟨by simp, fun j oj _ hl => (by rw [getD_replicate_false] at hl; cases hl), fun t _ ht => getD_in (by simpa using ht) (getD_replicate_false _ _)⟩
  refine wp_region_any hm ?_
  have := wpAny_of_X (Q := Q) (g := l.toArray.size - n) (fun listed a' w' hL => by
    have := wpAny_of_seq (md := .any) (Q' := Q) (l.drop n) n listed a' w' (fun j => by simp [List.getElem?_drop]) (by rw [hdl]; exact hL.1) hL.2
    rwa [hdl] at this) _ _ _ _ (h inv0)
  rw [show n + (l.toArray.size - n) = l.toArray.size by omega] at this
  exact this

/-- A whole array is loaded. -/
theorem detR_row {v : Value} {o : Oper} {a : Act} {w : World} (ty : TypeId) (x : Operand) (ho : o.op = .load ty x) (g : Nat) (hx : a.eval x = .pointer (some ⟨g, 0, none⟩)) (t : TypeId) (cs : Array Value) (d : TypeDesc)
    (hg : w.heap[g]? = some (.cells cs t (0, 0))) (hu : P.underlying ty = some d) (hd : (match d with | .struct _ | .array _ _ => true | _ => false) = true) (hi : (P.info? ty).map (·.size) = some cs.size)
    (hv : v = .agg cs) : DetR P (More w) v ((execOp a.eval o).run P w) := by
  unfold execOp
  simp only [ho, hx, Instr.loadAt, Instr.sureAddr, Sem.run_bind, Sem.run_pure, Result.andThen_ok, run_loadVar_row w g t ty cs (0, 0) d hg hu hd hi]
  exact ⟨hv.symm, Below.refl _ _⟩
end
end Go.Proofs.Ythkklhfnmodpnaa.Dt
