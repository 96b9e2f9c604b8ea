/-
  A law on a statement whose order of evaluation is open: operations that make memory, and calls, come up in whatever order; of each one is kept what it gives, and what it gives stays so. No order is branched over. No function of the program is walked here.
-/
import Derived.Test.YthkklhfnmodpnaaDet
import Derived.Test.YthkklhfnmodpnaaDet3
import Derived.Test.YthkklhfnmodpnaaBase
import Derived.Test.YthkklhfnmodpnaaSeq
set_option linter.unusedSimpArgs false
set_option linter.unusedVariables false
namespace Go.Proofs.Ythkklhfnmodpnaa.Dt
open Go Go.RowKit
section
variable {P : Program}
def dstAt (l : List Oper) (i : Nat) : Option Tmp := (l[i]?).bind (·.dst)
/-- The state in which the operations of the list have given these values. -/
def putsF (l : List Oper) (v : Nat → Value) : List Nat → Act → Act
  | [], a => a
  | i :: r, a => putsF l v r (a.put (dstAt l i) (v i))
def updF (v : Nat → Value) (i : Nat) (u : Value) : Nat → Value := fun j => if j = i then u else v j
def apartB (l : List Oper) : List Nat → Bool
  | [] => true
  | i :: r => (dstAt l i).isSome && r.all (fun j => dstAt l i != dstAt l j) && apartB l r
theorem put_twice (a : Act) (x : Option Tmp) (v u : Value) : (a.put x v).put x u = a.put x u := by
  cases x with
  | none => rfl
  | some d => simp [Act.put]
theorem put_self (a : Act) (x : Option Tmp) : ∃ v, a.put x v = a := by
  cases x with
  | none => exact ⟨undef, rfl⟩
  | some d =>
    refine ⟨a.tmps.getD d undef, ?_⟩
    unfold Act.put
    have : a.tmps.setIfInBounds d (a.tmps.getD d undef) = a.tmps := by
      apply Array.ext
      · simp
      · intro k h1 h2
        rw [Array.getElem_setIfInBounds]
        split
        · rename_i h; subst h; simp [h2]
        · rfl
    simp only [this]
theorem putsF_put {l : List Oper} {v : Nat → Value} {x : Option Tmp} {u : Value} : ∀ (r : List Nat) (a : Act), (∀ j ∈ r, x ≠ dstAt l j) → (putsF l v r a).put x u = putsF l v r (a.put x u)
  | [], a, h => rfl
  | i :: r, a, h => by
    unfold putsF
    rw [putsF_put r _ (fun j hj => h j (List.mem_cons_of_mem _ hj)), Act.put_comm a (v i) u (x := dstAt l i) (y := x)]
    intro d hd hx
    exact h i (List.mem_cons_self ..) (hx.trans hd.symm)
theorem putsF_congr {l : List Oper} {v v' : Nat → Value} : ∀ (r : List Nat) (a : Act), (∀ j ∈ r, v j = v' j) → putsF l v r a = putsF l v' r a
  | [], _, _ => rfl
  | i :: r, a, h => by
    unfold putsF
    rw [h i (List.mem_cons_self ..), putsF_congr r _ (fun j hj => h j (List.mem_cons_of_mem _ hj))]
theorem putsF_upd {l : List Oper} {v : Nat → Value} {i : Nat} {u : Value} : ∀ (r : List Nat) (a : Act), apartB l r = true → i ∈ r → (putsF l v r a).put (dstAt l i) u = putsF l (updF v i u) r a
  | [], _, _, h => by cases h
  | j :: r, a, hB, hi => by
    simp only [apartB, Bool.and_eq_true, List.all_eq_true, bne_iff_ne, ne_eq] at hB
    obtain ⟨⟨_, hne⟩, hr⟩ := hB
    unfold putsF
    by_cases hij : i = j
    · subst hij
      rw [putsF_put r _ (fun k hk => hne k hk), put_twice]
      have : ∀ k ∈ r, v k = updF v i u k := fun k hk => by
        unfold updF
        rw [if_neg]
        rintro rfl
        exact hne k hk rfl
      rw [putsF_congr r _ this]
      unfold updF; rw [if_pos rfl]
    · have hir : i ∈ r := by
        rcases List.mem_cons.1 hi with h | h
        · exact absurd h hij
        · exact h
      rw [putsF_upd r _ hr hir]
      have : updF v i u j = v j := by unfold updF; rw [if_neg (Ne.symm hij)]
      rw [this]
theorem putsF_ex (l : List Oper) : ∀ (r : List Nat) (a : Act), apartB l r = true → ∃ v, a = putsF l v r a
  | [], _, _ => ⟨fun _ => undef, rfl⟩
  | i :: r, a, hB => by
    simp only [apartB, Bool.and_eq_true, List.all_eq_true, bne_iff_ne, ne_eq] at hB
    obtain ⟨⟨_, hne⟩, hr⟩ := hB
    obtain ⟨x, hx⟩ := put_self a (dstAt l i)
    obtain ⟨v, hv⟩ := putsF_ex l r (a.put (dstAt l i) x) hr
    refine ⟨updF v i x, ?_⟩
    unfold putsF
    have h1 : updF v i x i = x := by unfold updF; rw [if_pos rfl]
    rw [h1, ← putsF_congr (v := v) r _ (fun j hj => by unfold updF; rw [if_neg]; rintro rfl; exact hne j hj rfl), ← hv, hx]
/-- Every operation waits for earlier ones alone. -/
def topoB (ops : Array Oper) (n : Nat) : Bool := (List.range n).all fun i => match ops[i]? with | some o => o.after.all fun e => !Region.binds .any e || decide (e.on < i) | none => false
def headB (s n : Nat) : Array Bool := ((List.range s).map fun i => decide (i < n)).toArray
/-- What number i asks of number j, if it waits for it. -/
def waits (l : List Oper) (i j : Nat) : Bool := match l[i]? with | some o => o.after.any fun e => Region.binds .any e && e.on == j | none => false
/-- What is asked of the operations of the list. -/
def Flows (P : Program) (l : List Oper) (F : Nat → Value → World → Prop) (A : (Nat → Value) → Act) (w : World) (is : List Nat) (i : Nat) : Prop :=
  ∃ o, l[i]? = some o ∧ o.guard = none ∧ ∀ v w1, More w w1 → (∀ j, is.contains j = true → waits l i j = true → F j (v j) w1) →
    ∀ K : Act → World → Prop, (∀ a' u w2, a' = (A v).put o.dst u → More w1 w2 → F i u w2 → K a' w2) → o.wp P (A v) w1 K NoQ
theorem least_free {listed : Array Bool} : ∀ (n : Nat), (∃ i, i < n ∧ listed.getD i true = false) → ∃ i, i < n ∧ listed.getD i true = false ∧ ∀ j, j < i → listed.getD j true = true
  | 0, ⟨i, h, _⟩ => by omega
  | n + 1, ⟨i, h, hf⟩ => by
    by_cases hx : ∃ i, i < n ∧ listed.getD i true = false
    · obtain ⟨k, hk, h1, h2⟩ := least_free n hx
      exact ⟨k, by omega, h1, h2⟩
    · refine ⟨i, h, hf, fun j hj => ?_⟩
      cases hb : listed.getD j true with
      | true => rfl
      | false => exact absurd ⟨j, by omega, hb⟩ hx
def cnt (listed : Array Bool) (n : Nat) : Nat := (List.range n).countP fun i => listed.getD i true == false
theorem countP_dec {f g : Nat → Bool} {i : Nat} : ∀ (l : List Nat), l.Nodup → i ∈ l → f i = true → g i = false → (∀ j, j ≠ i → f j = g j) → l.countP f = l.countP g + 1
  | [], _, h, _, _, _ => by cases h
  | j :: r, hn, hi, h1, h2, h3 => by
    rw [List.nodup_cons] at hn
    rw [List.countP_cons, List.countP_cons]
    by_cases hij : j = i
    · subst hij
      have : r.countP f = r.countP g := List.countP_congr fun k hk => by
        rw [h3 k (by rintro rfl; exact hn.1 hk)]
      rw [this, h1, h2]; simp
    · have hir : i ∈ r := by
        rcases List.mem_cons.1 hi with h | h
        · exact absurd h.symm hij
        · exact h
      rw [countP_dec r hn.2 hir h1 h2 h3, h3 j hij]; omega
theorem cnt_set {listed : Array Bool} {n i : Nat} (hi : i < n) (hf : listed.getD i true = false) : cnt listed n = cnt (listed.setIfInBounds i true) n + 1 := by
  refine countP_dec (List.range n) List.nodup_range (List.mem_range.2 hi) (by simp [hf]) ?_ (fun j hj => by rw [getD_set_ne true (Ne.symm hj)])
  have : (listed.setIfInBounds i true).getD i true = true := by
    have hlt : i < listed.size := by
      rcases Nat.lt_or_ge i listed.size with h' | h'
      · exact h'
      · simp [Array.getElem?_eq_none h'] at hf
    simp [hlt]
  rw [this]; rfl
theorem cnt_zero {listed : Array Bool} {n : Nat} (h : cnt listed n = 0) : ∀ i, i < n → listed.getD i true = true := by
  intro i hi
  have := List.countP_eq_zero.1 h i (List.mem_range.2 hi)
  cases hb : listed.getD i true with
  | true => rfl
  | false => rw [hb] at this; simp at this
theorem cnt_pos {listed : Array Bool} {n m : Nat} (h : cnt listed n = m + 1) : ∃ i, i < n ∧ listed.getD i true = false := by
  apply Classical.byContradiction
  intro hn
  have : cnt listed n = 0 := List.countP_eq_zero.2 fun i hi => by
    cases hb : listed.getD i true with
    | true => simp
    | false => exact absurd ⟨i, List.mem_range.1 hi, hb⟩ hn
  omega
theorem head_all {ops : Array Oper} {n : Nat} {listed : Array Bool} (inv : HeadInv .any ops n listed) (hn : n < ops.size) (h : ∀ i, i < n → listed.getD i true = true) : listed = headB ops.size n := by
  apply Array.ext
  · rw [inv.size]; simp [headB]
  · intro i h1 h2
    have e : (headB ops.size n)[i] = decide (i < n) := by simp [headB]
    rw [e]
    have hg : listed.getD i true = listed[i] := by simp [h1]
    rw [← hg]
    by_cases hi : i < n
    · rw [h i hi]; simp [hi]
    · rw [inv.tail i (by omega) (by rw [← inv.size]; exact h1)]; simp [hi]
def flowB (l : List Oper) (n : Nat) (is : List Nat) (listed : Array Bool) (f : Nat) : Bool :=
  fitB l.toArray n && topoB l.toArray n && apartB l is && is.all (fun i => decide (i < n) && (listed.getD i true == false)) && (List.range n).all (fun i => listed.getD i true || is.contains i) && decide (cnt listed n = f) && Region.seqB .any l.toArray (l.toArray.size - n) n (headB l.toArray.size n)
/-- THE LAW. -/
theorem wpX_flow {l : List Oper} {n : Nat} {Q : Exit → Act → World → Prop} {f : Nat} {listed : Array Bool} {a : Act} {w : World} (is : List Nat) (F : Nat → Value → World → Prop)
    (hB : flowB l n is listed f = true) (hmono : ∀ i v w w', F i v w → More w w' → F i v w')
    (h : ∀ A, (∀ v, A v = putsF l v is a) → (∀ i ∈ is, Flows P l F A w is i) ∧ ∀ v w1, More w w1 → (∀ j, is.contains j = true → F j (v j) w1) → wpList P l.toArray Q (l.drop n) (A v) w1) : wpXI P l.toArray n Q f listed a w := by
  simp only [flowB, Bool.and_eq_true, decide_eq_true_eq, List.all_eq_true] at hB
  obtain ⟨⟨⟨⟨⟨⟨hfit, htopo⟩, hap⟩, his⟩, hcov⟩, hcnt⟩, hseq⟩ := hB
  simp only [fitB, Bool.and_eq_true, decide_eq_true_eq] at hfit
  obtain ⟨⟨⟨hsel, hn⟩, hs⟩, hc⟩ := hfit
  obtain ⟨hops, hend⟩ := h (fun v => putsF l v is a) (fun _ => rfl)
  obtain ⟨v0, hv0⟩ := putsF_ex l is a hap
  have main : ∀ (f : Nat) (listed : Array Bool) (v : Nat → Value) (w' : World), HeadInv .any l.toArray n listed → More w w' → (∀ i, i < n → listed.getD i true = true ∨ is.contains i = true) →
      (∀ i ∈ is, listed.getD i true = true → F i (v i) w') → cnt listed n = f →
      wpX P .any l.toArray n (fun listed' a' w' => Region.seqB .any l.toArray (l.toArray.size - n) n listed' = true ∧ wpList P l.toArray Q (l.toArray.toList.drop n) a' w') f listed (putsF l v is a) w' := by
    intro f
    induction f with
    | zero =>
      intro listed v w' inv hm hcov hF hc0 w1 h1
      have hall := cnt_zero hc0
      refine ⟨by rw [head_all inv hn hall]; exact hseq, ?_⟩
      refine hend v w1 (hm.trans h1) fun j hj => hmono _ _ _ _ (hF j (by simpa using hj) ?_) h1
      have := (his j (by simpa using hj))
      exact hall j (by simpa using this.1)
    | succ f ih =>
      intro listed v w' inv hm hcov hF hcf w1 h1
      obtain ⟨i0, hi0, hf0, hlow⟩ := least_free n (cnt_pos hcf)
      have hsz : i0 < l.length := by have : l.toArray.size = l.length := by simp
                                     omega
      have hr0 : i0 ∈ Region.ready .any l.toArray listed := by
        rw [mem_ready]
        refine ⟨hf0, l[i0], by simp [hsz], fun e he hb => ?_⟩
        unfold topoB at htopo
        simp only [List.all_eq_true] at htopo
        have := htopo i0 (List.mem_range.2 hi0)
        simp only [List.getElem?_toArray, List.getElem?_eq_getElem hsz] at this
        simp only [Array.all_eq_true_iff_forall_mem, Bool.or_eq_true, Bool.not_eq_true', decide_eq_true_eq] at this
        have hlt : e.on < i0 := by
          rcases this e he with h | h
          · rw [h] at hb; cases hb
          · exact h
        have hl := hlow e.on hlt
        have hlt2 : e.on < listed.size := by rw [inv.size]; simp; omega
        simp [hlt2] at hl ⊢; exact hl
      refine ⟨fun h => (by rw [h] at hr0; cases hr0), fun j hj => ?_⟩
      have hjn : j < n := by
        rcases Nat.lt_or_ge j n with h | h
        · exact h
        · exact absurd hj (tail_waits hs hc hn inv _ i0 rfl hi0 hf0 j h)
      refine ⟨hjn, ?_⟩
      obtain ⟨hjun, oj, hoj, hafter⟩ := mem_ready.1 hj
      have hjis : j ∈ is := by
        rcases hcov j hjn with h | h
        · rw [h] at hjun; cases hjun
        · simpa using h
      obtain ⟨o, ho, hg, hob⟩ := hops j hjis
      have hoo : oj = o := by
        have : l.toArray[j]? = some o := by simpa using ho
        exact Option.some.inj (hoj.symm.trans this)
      subst hoo
      unfold Go.wpOp
      simp only [hoj, Region.wanted, hg, if_true]
      refine .inl (hob v w1 (hm.trans h1) ?_ _ ?_)
      · intro k hk hw
        have hk' : k ∈ is := by simpa using hk
        refine hmono _ _ _ _ (hF k hk' ?_) h1
        unfold waits at hw
        rw [ho] at hw
        simp only [Array.any_eq_true, Bool.and_eq_true, beq_iff_eq] at hw
        obtain ⟨q, hq, hb, hon⟩ := hw
        have := hafter _ (Array.getElem_mem hq) hb
        rw [hon] at this
        have hkl : k < listed.size := by
          rcases Nat.lt_or_ge k listed.size with h' | h'
          · exact h'
          · simp [Array.getElem?_eq_none h'] at this
        simp [hkl] at this ⊢; exact this
      · intro a' u w2 ha' h2 hFu
        refine ⟨h2, ?_⟩
        have hd : dstAt l j = oj.dst := by unfold dstAt; rw [ho]; rfl
        rw [ha', ← hd, putsF_upd is a hap hjis]
        refine ih (listed.setIfInBounds j true) (updF v j u) w2 (inv.set hj hjn) ((hm.trans h1).trans h2) ?_ ?_ ?_
        · intro k hk
          rcases hcov k hk with h | h
          · by_cases hkj : j = k
            · exact .inr (by subst hkj; simpa using hjis)
            · exact .inl (by rw [getD_set_ne true hkj]; exact h)
          · exact .inr h
        · intro k hk hl
          by_cases hkj : k = j
          · subst hkj; unfold updF; rw [if_pos rfl]; exact hFu
          · unfold updF; rw [if_neg hkj]
            rw [getD_set_ne true (Ne.symm hkj)] at hl
            exact hmono _ _ _ _ (hmono _ _ _ _ (hF k hk hl) h1) h2
        · have := cnt_set hjn hjun; omega
  intro inv
  rw [hv0]
  refine main f listed v0 w inv (Below.refl _ _) ?_ ?_ hcnt
  · intro i hi
    have := hcov i (List.mem_range.2 hi)
    simpa using this
  · intro i hi hl
    have := (his i hi)
    simp only [Bool.and_eq_true, decide_eq_true_eq, beq_iff_eq] at this
    rw [this.2] at hl; cases hl
theorem flow_cons {l : List Oper} {F : Nat → Value → World → Prop} {A : (Nat → Value) → Act} {w : World} {is r : List Nat} {i : Nat} {o : Oper} (ho : l[i]? = some o) (hg : o.guard = none)
    (h : ∀ v w1, More w w1 → (∀ j, is.contains j = true → waits l i j = true → F j (v j) w1) →
      ∀ K : Act → World → Prop, (∀ a' u w2, a' = (A v).put o.dst u → More w1 w2 → F i u w2 → K a' w2) → o.wp P (A v) w1 K NoQ)
    (hr : ∀ i ∈ r, Flows P l F A w is i) : ∀ k ∈ i :: r, Flows P l F A w is k := by
  intro k hk
  rcases List.mem_cons.1 hk with rfl | h2
  · exact ⟨o, ho, hg, h⟩
  · exact hr k h2
theorem flow_nil {l : List Oper} {F : Nat → Value → World → Prop} {A : (Nat → Value) → Act} {w : World} {is : List Nat} : ∀ k ∈ ([] : List Nat), Flows P l F A w is k := by
  intro k hk; cases hk
/-- An operation that gives one value. -/
theorem flow_one {o : Oper} {F : Value → World → Prop} {a b : Act} {w1 : World} (u : Value) (hab : a = b) (h : DetR P (More w1) u ((execOp b.eval o).run P w1)) (hF : ∀ w2, More w1 w2 → F u w2)
    (K : Act → World → Prop) (hK : ∀ a' u w2, a' = a.put o.dst u → More w1 w2 → F u w2 → K a' w2) : o.wp P a w1 K NoQ := by
  subst hab
  unfold Oper.wp
  generalize (execOp a.eval o).run P w1 = r at *
  cases r with
  | ok n w' =>
    cases n <;> simp only [DetR] at h <;> simp only [Oper.upon]
    case value x => obtain ⟨rfl, hs⟩ := h; exact hK _ _ _ rfl hs (hF _ hs)
    case skip => obtain ⟨rfl, hs⟩ := h; exact hK _ _ _ rfl hs (hF _ hs)
    case enter f args =>
      refine Calls.mono h fun e w'' he => ?_
      obtain ⟨rfl, hs⟩ := he
      exact hK _ _ _ rfl hs (hF _ hs)
  | halt x w' => exact h.elim
/-- What is kept of a value: it is this one; or it is a slice of a block of its own, of these cells. -/
inductive Fact where
  | val (v : Value)
  | sl (cells : Array Value) (t : TypeId) (n : Nat)
  | any
def Fact.holds : Fact → Value → World → Prop
  | .val c, v, _ => v = c
  | .sl cs t n, v, w => ∃ b, v = .slice (some ⟨b, 0, none⟩) n n ∧ blk w b cs t
  | .any, _, _ => True
theorem Fact.mono {F : Fact} {v : Value} {w w' : World} (h : F.holds v w) (hm : More w w') : F.holds v w' := by
  cases F with
  | val c => exact h
  | any => trivial
  | sl cs t n =>
    obtain ⟨b, hv, hb⟩ := h
    exact ⟨b, hv, hb.below hm hb.lt⟩
def factAt (L : List (Nat × Fact)) (i : Nat) : Value → World → Prop := match L.lookup i with | some f => f.holds | none => fun _ _ => True
theorem factAt_mono (L : List (Nat × Fact)) (i : Nat) (v : Value) (w w' : World) (h : factAt L i v w) (hm : More w w') : factAt L i v w' := by
  unfold factAt at *
  cases hl : L.lookup i with
  | none => trivial
  | some f => rw [hl] at h; exact Fact.mono h hm
/-- The same, told by the slots themselves. -/
def putsD (v : Nat → Value) : List (Nat × Nat) → Act → Act
  | [], a => a
  | x :: r, a => putsD v r (a.put (some x.2) (v x.1))
def slotsB (l : List Oper) (ds : List (Nat × Nat)) : Bool := ds.all fun x => dstAt l x.1 == some x.2
theorem putsF_D {l : List Oper} {v : Nat → Value} : ∀ (ds : List (Nat × Nat)) (a : Act), slotsB l ds = true → putsF l v (ds.map (·.1)) a = putsD v ds a
  | [], _, _ => rfl
  | x :: r, a, h => by
    simp only [slotsB, List.all_cons, Bool.and_eq_true, beq_iff_eq] at h
    show putsF l v (r.map (·.1)) (a.put (dstAt l x.1) (v x.1)) = putsD v r (a.put (some x.2) (v x.1))
    rw [h.1]
    exact putsF_D r _ h.2
/-- THE LAW, with the slots told. -/
theorem wpX_flowD {l : List Oper} {n : Nat} {Q : Exit → Act → World → Prop} {f : Nat} {listed : Array Bool} {a : Act} {w : World} (ds : List (Nat × Nat)) (F : Nat → Value → World → Prop)
    (hB : flowB l n (ds.map (·.1)) listed f = true) (hS : slotsB l ds = true) (hmono : ∀ i v w w', F i v w → More w w' → F i v w')
    (h : ∀ A, (∀ v, A v = putsD v ds a) → (∀ i ∈ ds.map (·.1), Flows P l F A w (ds.map (·.1)) i) ∧ ∀ v w1, More w w1 → (∀ j, (ds.map (·.1)).contains j = true → F j (v j) w1) → wpList P l.toArray Q (l.drop n) (A v) w1) : wpXI P l.toArray n Q f listed a w :=
  wpX_flow (ds.map (·.1)) F hB hmono fun A hA => h A fun v => (hA v).trans (putsF_D ds a hS)
/-- What a number that may be taken now is, where the rest is known. -/
def takeFB (ops : Array Oper) (n i : Nat) (listed : Array Bool) : Bool :=
  decide (i < n) && (Region.ready .any ops listed).contains i && Region.free .any ops listed i
theorem wpX_takeF {l : List Oper} {n : Nat} {Q : Exit → Act → World → Prop} {f : Nat} {listed : Array Bool} {a : Act} {w : World} (hfit : fitB l.toArray n = true) (i : Nat) {o : Oper} (v : Value) (ho' : l[i]? = some o) (hg : o.guard = none)
    (hB : takeFB l.toArray n i listed = true) (h : ∀ w1, More w w1 → DetR P (More w1) v ((execOp a.eval o).run P w1))
    (h2 : wpXI P l.toArray n Q f (listed.setIfInBounds i true) (a.put o.dst v) w) : wpXI P l.toArray n Q (f + 1) listed a w := by
  refine wpX_take i v ho' hg ?_ h h2
  unfold takeB
  unfold takeFB at hB
  rw [hfit, Bool.true_and]
  exact hB
theorem wp_region_XF {id : Nat} {Q : Exit → Act → World → Prop} {a : Act} {w : World} {l : List Oper} (n : Nat) (hm : P.follows .mixedOrders = true) (hB : fitB l.toArray n = true)
    (h : fitB l.toArray n = true → wpXI P l.toArray n Q n (Array.replicate l.toArray.size false) a w.drew) : (Code.region id l.toArray true).wp P Q a w := wp_region_X n hm hB (h hB)
theorem flow_buildI {o : Oper} {a : Act} {w : World} {K : Act → World → Prop} {F : Value → World → Prop} (t e : TypeId) (len : Nat) (parts : Array (Nat × Operand)) (ho : o.op = .buildSlice t len parts)
    (zs : List Int) (hu : P.underlying t = some (.slice e)) (hsz : (P.info? e).map (·.size) = some 1) (hz : ((P.info? e).bind (·.zero)).isSome = true)
    (hlen : len = zs.length) (hpos : 0 < len) (hsmall : len ≤ 2 ^ 24)
    (hparts : (parts.map fun (i, x) => (i, a.eval x)).toList = ((zs.map (Value.int .i64)).zipIdx 0).map fun x => (x.2, x.1))
    (hF : ∀ u w2, (∃ b, u = .slice (some ⟨b, 0, none⟩) len len ∧ blk w2 b (zs.map (Value.int .i64)).toArray e) → F u w2)
    (hK : ∀ a' u w2, a' = a.put o.dst u → More w w2 → F u w2 → K a' w2) : o.wp P a w K NoQ := by
  cases hie : P.info? e with
  | none => simp [hie] at hsz
  | some ie =>
    simp only [hie, Option.map_some, Option.some.injEq, Option.bind_some] at hsz hz
    obtain ⟨z, hzz⟩ := Option.isSome_iff_exists.1 hz
    refine wp_buildSlice t e len parts ho (zs.map (Value.int .i64)).toArray ie z hu hie hzz (by rw [hsz]; omega) (by rw [hsz]; omega) ?_ (hK _ _ _ rfl ((Below.refl _ _).alloc (Nat.le_refl _) _) (hF _ _ ⟨_, rfl, blk.new _ _ _⟩))
    rw [hparts, hsz]
    exact Great.fill_flat _ _ (fun v hv => by obtain ⟨n, _, rfl⟩ := List.mem_map.1 hv; rfl) (by simp [hlen])
theorem flow_build4 {o : Oper} {a : Act} {w : World} {K : Act → World → Prop} {F : Value → World → Prop} {t e : TypeId} {x0 x1 x2 x3 : Operand} (ho : o.op = .buildSlice t 4 #[(0, x0), (1, x1), (2, x2), (3, x3)])
    {n0 n1 n2 n3 : Int} (h0 : a.eval x0 = .int .i64 n0) (h1 : a.eval x1 = .int .i64 n1) (h2 : a.eval x2 = .int .i64 n2) (h3 : a.eval x3 = .int .i64 n3)
    (hu : P.underlying t = some (.slice e)) (hsz : (P.info? e).map (·.size) = some 1) (hz : ((P.info? e).bind (·.zero)).isSome = true)
    (hF : ∀ u w2, (∃ b, u = .slice (some ⟨b, 0, none⟩) 4 4 ∧ blk w2 b #[.int .i64 n0, .int .i64 n1, .int .i64 n2, .int .i64 n3] e) → F u w2)
    (hK : ∀ a' u w2, a' = a.put o.dst u → More w w2 → F u w2 → K a' w2) : o.wp P a w K NoQ :=
  flow_buildI t e 4 _ ho [n0, n1, n2, n3] hu hsz hz rfl (by omega) (by decide) (by simp [h0, h1, h2, h3]) hF hK
theorem flow_build2 {o : Oper} {a : Act} {w : World} {K : Act → World → Prop} {F : Value → World → Prop} {t e : TypeId} {x0 x1 : Operand} (ho : o.op = .buildSlice t 2 #[(0, x0), (1, x1)])
    {n0 n1 : Int} (h0 : a.eval x0 = .int .i64 n0) (h1 : a.eval x1 = .int .i64 n1)
    (hu : P.underlying t = some (.slice e)) (hsz : (P.info? e).map (·.size) = some 1) (hz : ((P.info? e).bind (·.zero)).isSome = true)
    (hF : ∀ u w2, (∃ b, u = .slice (some ⟨b, 0, none⟩) 2 2 ∧ blk w2 b #[.int .i64 n0, .int .i64 n1] e) → F u w2)
    (hK : ∀ a' u w2, a' = a.put o.dst u → More w w2 → F u w2 → K a' w2) : o.wp P a w K NoQ :=
  flow_buildI t e 2 _ ho [n0, n1] hu hsz hz rfl (by omega) (by decide) (by simp [h0, h1]) hF hK
/-- The operation makes one slice of a block of its own. -/
def AllocOp (P : Program) (o : Oper) (a : Act) (cells : Array Value) (t : TypeId) (n : Nat) : Prop :=
  ∀ (w : World) (K : Act → World → Prop), (∀ b w', More w w' → blk w' b cells t → K (a.put o.dst (.slice (some ⟨b, 0, none⟩) n n)) w') → o.wp P a w K NoQ
theorem allocI {o : Oper} {a : Act} (t e : TypeId) (len : Nat) (parts : Array (Nat × Operand)) (ho : o.op = .buildSlice t len parts)
    (zs : List Int) (hu : P.underlying t = some (.slice e)) (hsz : (P.info? e).map (·.size) = some 1) (hz : ((P.info? e).bind (·.zero)).isSome = true)
    (hlen : len = zs.length) (hpos : 0 < len) (hsmall : len ≤ 2 ^ 24)
    (hparts : (parts.map fun (i, x) => (i, a.eval x)).toList = ((zs.map (Value.int .i64)).zipIdx 0).map fun x => (x.2, x.1)) : AllocOp P o a (zs.map (Value.int .i64)).toArray e len := by
  intro w K hK
  refine flow_buildI (F := fun u w2 => ∃ b, u = .slice (some ⟨b, 0, none⟩) len len ∧ blk w2 b (zs.map (Value.int .i64)).toArray e) t e len parts ho zs hu hsz hz hlen hpos hsmall hparts (fun _ _ h => h) ?_
  rintro a' u w2 rfl hm ⟨b, rfl, nb⟩
  exact hK b w2 hm nb
theorem alloc4 {o : Oper} {a : Act} {t e : TypeId} {x0 x1 x2 x3 : Operand} (ho : o.op = .buildSlice t 4 #[(0, x0), (1, x1), (2, x2), (3, x3)])
    {n0 n1 n2 n3 : Int} (h0 : a.eval x0 = .int .i64 n0) (h1 : a.eval x1 = .int .i64 n1) (h2 : a.eval x2 = .int .i64 n2) (h3 : a.eval x3 = .int .i64 n3)
    (hu : P.underlying t = some (.slice e)) (hsz : (P.info? e).map (·.size) = some 1) (hz : ((P.info? e).bind (·.zero)).isSome = true) : AllocOp P o a #[.int .i64 n0, .int .i64 n1, .int .i64 n2, .int .i64 n3] e 4 :=
  allocI t e 4 _ ho [n0, n1, n2, n3] hu hsz hz rfl (by omega) (by decide) (by simp [h0, h1, h2, h3])
theorem alloc2 {o : Oper} {a : Act} {t e : TypeId} {x0 x1 : Operand} (ho : o.op = .buildSlice t 2 #[(0, x0), (1, x1)])
    {n0 n1 : Int} (h0 : a.eval x0 = .int .i64 n0) (h1 : a.eval x1 = .int .i64 n1)
    (hu : P.underlying t = some (.slice e)) (hsz : (P.info? e).map (·.size) = some 1) (hz : ((P.info? e).bind (·.zero)).isSome = true) : AllocOp P o a #[.int .i64 n0, .int .i64 n1] e 2 :=
  allocI t e 2 _ ho [n0, n1] hu hsz hz rfl (by omega) (by decide) (by simp [h0, h1])
/-- Two slices are made, in either order. -/
theorem wpY_allocs {l : List Oper} {e : Nat} {Q : Exit → Act → World → Prop} {f : Nat} {listed : Array Bool} {a : Act} {w : World} (i j : Nat) {oi oj : Oper} {ci cj : Array Value} {ti tj : TypeId} {ni nj : Nat}
    (hoi : l[i]? = some oi) (hgi : oi.guard = none) (hoj : l[j]? = some oj) (hgj : oj.guard = none) (hij : i ≠ j)
    (hr : Region.ready .any l.toArray listed = [i, j]) (hri : Region.ready .any l.toArray (listed.setIfInBounds i true) = [j]) (hrj : Region.ready .any l.toArray (listed.setIfInBounds j true) = [i])
    (hd : oi.dst ≠ oj.dst) (hai : AllocOp P oi a ci ti ni) (haj : AllocOp P oj a cj tj nj) (hai' : ∀ u, AllocOp P oi (a.put oj.dst u) ci ti ni) (haj' : ∀ u, AllocOp P oj (a.put oi.dst u) cj tj nj)
    (h : ∀ b1 b2 w', More w w' → blk w' b1 ci ti → blk w' b2 cj tj → wpY P .any l.toArray e Q f ((listed.setIfInBounds i true).setIfInBounds j true) ((a.put oi.dst (.slice (some ⟨b1, 0, none⟩) ni ni)).put oj.dst (.slice (some ⟨b2, 0, none⟩) nj nj)) w') :
    wpY P .any l.toArray e Q (f + 1 + 1) listed a w := by
  refine wpY_two i j hoi hgi hoj hgj hr (fun w1 h1 K hK => hai w1 K fun b w2 h2 nb => hK _ _ h2 ?_) (fun w1 h1 K hK => haj w1 K fun b w2 h2 nb => hK _ _ h2 ?_)
  · exact wpY_more1 j hoj hgj hri fun w3 h3 K' hK' => haj' _ w3 K' fun b' w4 h4 nb' => hK' _ _ h4 (h b b' w4 (((h1.trans h2).trans h3).trans h4) ((nb.below h3 nb.lt).below h4 (nb.below h3 nb.lt).lt) nb')
  · refine wpY_more1 i hoi hgi hrj fun w3 h3 K' hK' => hai' _ w3 K' fun b' w4 h4 nb' => hK' _ _ h4 ?_
    have := h b' b w4 (((h1.trans h2).trans h3).trans h4) nb' ((nb.below h3 nb.lt).below h4 (nb.below h3 nb.lt).lt)
    rw [Array.setIfInBounds_comm _ _ hij] at this
    rw [Act.put_comm a _ _ (fun d hd1 hd2 => hd (hd1.trans hd2.symm))] at this
    exact this
end
end Go.Proofs.Ythkklhfnmodpnaa.Dt
