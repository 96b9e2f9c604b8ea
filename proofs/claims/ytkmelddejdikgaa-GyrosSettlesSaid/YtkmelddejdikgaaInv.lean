/-
  Regions that draw their order, by an invariant: what every operation gives, and what memory holds by what has come up. No program in sight.
-/
import Derived.Test.YtkmelddejdikgaaHeld
set_option linter.unusedSimpArgs false
set_option linter.unusedVariables false
namespace Go.Proofs.Ytkmelddejdikgaa
open Go.RowKit PM Dt
def maskOf (ms : List Nat) (o : Oper) : Nat := o.after.toList.foldl (fun m e => if Region.binds .any e then m ||| (ms.getD e.on 0 ||| 1 <<< e.on) else m) 0
/-- Bit j of number i: i waits for j, at whatever distance. -/
def masks : List Oper → List Nat → List Nat
  | [], ms => ms
  | o :: l, ms => masks l (ms ++ [maskOf ms o])
theorem maskOf_bit {ms : List Nat} {j : Nat} : ∀ (es : List Edge) (m : Nat), (es.foldl (fun m e => if Region.binds .any e then m ||| (ms.getD e.on 0 ||| 1 <<< e.on) else m) m).testBit j = true →
    m.testBit j = true ∨ ∃ e ∈ es, Region.binds .any e = true ∧ (e.on = j ∨ (ms.getD e.on 0).testBit j = true)
  | [], m, h => .inl h
  | e :: es, m, h => by
    rw [List.foldl_cons] at h
    rcases maskOf_bit es _ h with h | ⟨e', he, hb, h⟩
    · by_cases hb : Region.binds .any e = true
      · rw [if_pos hb] at h
        simp only [Nat.testBit_or, Bool.or_eq_true] at h
        rcases h with h | h | h
        · exact .inl h
        · exact .inr ⟨e, List.mem_cons_self .., hb, .inr h⟩
        · refine .inr ⟨e, List.mem_cons_self .., hb, .inl ?_⟩
          rw [Nat.one_shiftLeft, Nat.testBit_two_pow] at h
          simpa using h
      · rw [if_neg hb] at h; exact .inl h
    · exact .inr ⟨e', List.mem_cons_of_mem _ he, hb, h⟩
theorem getD_append_left {α : Type} (a b : List α) (i : Nat) (d : α) (h : i < a.length) : (a ++ b).getD i d = a.getD i d := by
  simp [List.getD, List.getElem?_append_left h]
/-- What a bit says. -/
def BitOk (l : List Oper) (ms : List Nat) : Prop := ∀ i j, (ms.getD i 0).testBit j = true → i < l.length ∧ ∃ o, l[i]? = some o ∧ ∃ e ∈ o.after, Region.binds .any e = true ∧ (e.on = j ∨ (e.on < i ∧ (ms.getD e.on 0).testBit j = true))
theorem masks_ok : ∀ (l pre : List Oper) (ms : List Nat), ms.length = pre.length → BitOk pre ms → BitOk (pre ++ l) (masks l ms)
  | [], pre, ms, _, h => by simpa [masks] using h
  | o :: l, pre, ms, hl, h => by
    have := masks_ok l (pre ++ [o]) (ms ++ [maskOf ms o]) (by simp [hl]) ?_
    · simpa [masks] using this
    intro i j hb
    rcases Nat.lt_or_ge i ms.length with hi | hi
    · rw [getD_append_left _ _ _ _ hi] at hb
      obtain ⟨h1, o', ho', e, he, hbe, h2⟩ := h i j hb
      refine ⟨by simp; omega, o', by rw [List.getElem?_append_left h1]; exact ho', e, he, hbe, h2.imp id fun h3 => ⟨h3.1, ?_⟩⟩
      rw [getD_append_left _ _ _ _ (by omega)]; exact h3.2
    · by_cases hi2 : i = ms.length
      · subst hi2
        have e1 : (ms ++ [maskOf ms o]).getD ms.length 0 = maskOf ms o := by simp [List.getD]
        rw [e1] at hb
        unfold maskOf at hb
        rcases maskOf_bit _ _ hb with h0 | ⟨e, he, hbe, h2⟩
        · simp at h0
        · refine ⟨by simp [hl], o, by rw [hl]; simp, e, by simpa using he, hbe, h2.imp id fun h3 => ?_⟩
          have hlt : e.on < ms.length := by
            rcases Nat.lt_or_ge e.on ms.length with hx | hx
            · exact hx
            · simp [List.getD, List.getElem?_eq_none hx] at h3
          exact ⟨hlt, by rw [getD_append_left _ _ _ _ hlt]; exact h3⟩
      · simp [List.getD, List.getElem?_eq_none (show (ms ++ [maskOf ms o]).length ≤ i by simp; omega)] at hb
theorem masks_bit {l : List Oper} {listed : Array Bool} (hc : Closed l.toArray listed) : ∀ (i j : Nat), ((masks l []).getD i 0).testBit j = true →
    (∀ o, l[i]? = some o → ∀ d ∈ o.after, Region.binds .any d = true → listed.getD d.on false = true) → listed.getD j false = true := by
  have hok : BitOk l (masks l []) := by
    have := masks_ok l [] [] rfl (fun i j h => by simp [List.getD] at h)
    simpa using this
  intro i
  induction i using Nat.strongRecOn with
  | ind i ih =>
    intro j hb hr
    obtain ⟨_, o, ho, e, he, hbe, h2⟩ := hok i j hb
    have h1 := hr o ho e he hbe
    rcases h2 with rfl | ⟨hlt, h3⟩
    · exact h1
    · exact ih e.on hlt j h3 fun o' ho' d hd hbd => hc e.on o' (by simpa using ho') h1 d hd hbd
/-! ### The law -/
def upN (p : Nat → Nat) (i q : Nat) : Nat → Nat := fun j => match Nat.beq j i with | true => q | false => p j
def upL (L : Nat → Bool) (i : Nat) : Nat → Bool := fun j => match Nat.beq j i with | true => true | false => L j
theorem upN_eq (p : Nat → Nat) (i q j : Nat) : upN p i q j = if j = i then q else p j := by
  unfold upN
  by_cases h : j = i
  · subst h; simp
  · have : Nat.beq j i = false := by cases hb : Nat.beq j i with | false => rfl | true => exact absurd (Nat.eq_of_beq_eq_true hb) h
    simp [this, h]
theorem upL_eq (L : Nat → Bool) (i j : Nat) : upL L i j = if j = i then true else L j := by
  unfold upL
  by_cases h : j = i
  · subst h; simp
  · have : Nat.beq j i = false := by cases hb : Nat.beq j i with | false => rfl | true => exact absurd (Nat.eq_of_beq_eq_true hb) h
    simp [this, h]
theorem upN_self (p : Nat → Nat) (i : Nat) : upN p i (p i) = p := by funext j; rw [upN_eq]; split <;> simp_all
theorem upN_same (p : Nat → Nat) (i q : Nat) : upN p i q i = q := by rw [upN_eq, if_pos rfl]
def vI : (Nat → Nat) → Value := fun _ => undef
/-- The run of an operation. -/
def StepR (P : Program) (G : Value → World → Prop) : Result Next → Prop
  | .ok (.value u) w => G u w
  | .ok .skip w => G undef w
  | .ok (.enter f args) w => Calls P f args w fun e w' => ∃ u, e = .returned u ∧ G u w'
  | _ => False
theorem StepR.imp {P : Program} {G G' : Value → World → Prop} {r : Result Next} (h : StepR P G r) (hi : ∀ u w, G u w → G' u w) : StepR P G' r := by
  cases r with
  | ok n w =>
    cases n <;> simp only [StepR] at h ⊢ <;> try exact hi _ _ h
    exact h.mono fun e w' ⟨u, he, hg⟩ => ⟨u, he, hi _ _ hg⟩
  | halt x w => exact h.elim
/-- What is asked of number i. -/
def StepI (P : Program) (l : List Oper) (M : List Nat) (vs : List ((Nat → Nat) → Value)) (R : (Nat → Nat) → (Nat → Bool) → World → Prop) (A : (Nat → Nat) → Act) (fr : List Nat) (i : Nat) : Prop :=
  ∃ o, l[i]? = some o ∧ ∀ p L w1, R p L w1 → L i = false → (∀ j, (M.getD i 0).testBit j = true → L j = true) → (∀ j, (M.getD j 0).testBit i = true → L j = false) →
    (Region.wanted o (yielded l.toArray (A p).tmps) = true ∧ StepR P (fun u w2 => ∃ q, (fr.contains i = false → q = p i) ∧ u = (vs.getD i vI) (upN p i q) ∧ R (upN p i q) (upL L i) w2) ((execOp (A p).eval o).run P w1)) ∨
    (Region.wanted o (yielded l.toArray (A p).tmps) = false ∧ (vs.getD i vI) p = undef ∧ R p (upL L i) w1)
def AllI (Φ : Nat → Prop) : List Nat → Prop
  | [] => True
  | i :: r => Φ i ∧ AllI Φ r
theorem AllI.cons {Φ : Nat → Prop} {i : Nat} {r : List Nat} (h : Φ i) (k : AllI Φ r) : AllI Φ (i :: r) := ⟨h, k⟩
theorem AllI.nil {Φ : Nat → Prop} : AllI Φ [] := trivial
theorem AllI_get {Φ : Nat → Prop} : ∀ (r : List Nat), AllI Φ r → ∀ i ∈ r, Φ i
  | [], _, i, h => by cases h
  | j :: r, ha, i, h => by
    rcases List.mem_cons.1 h with rfl | h
    · exact ha.1
    · exact AllI_get r ha.2 i h
def dstsI (l : List Oper) : List Nat := (List.range l.length).filter fun i => (dstAt l i).isSome
/-- Whatever number i looks at has come up before it. -/
def looksB (l : List Oper) (M : List Nat) : Bool := (List.range l.length).all fun i => match l[i]? with
  | some o => let s := o.looksAt l.toArray; (List.range l.length).all fun k => match dstAt l k with
    | some d => !s.contains d || (M.getD i 0).testBit k
    | none => true
  | none => true
def checkI (l : List Oper) (M : List Nat) : Bool :=
  Region.noSelect l.toArray && topoB l.toArray l.length && apartB l (dstsI l) && (masks l [] == M) && looksB l M
section
variable {P : Program} {Q : Exit → Act → World → Prop}
theorem putsF_same {l : List Oper} {v v' : Nat → Value} {o : Oper} (ho : ∀ cs b, o.op ≠ .select cs b) : ∀ (r : List Nat) (a : Act), apartB l r = true →
    (∀ k ∈ r, v k = v' k ∨ ∀ d, dstAt l k = some d → d ∉ o.looksAt l.toArray) →
    execOp (putsF l v r a).eval o = execOp (putsF l v' r a).eval o ∧ Region.wanted o (yielded l.toArray (putsF l v r a).tmps) = Region.wanted o (yielded l.toArray (putsF l v' r a).tmps)
  | [], _, _, _ => ⟨rfl, rfl⟩
  | k :: r, a, hB, h => by
    simp only [apartB, Bool.and_eq_true, List.all_eq_true, bne_iff_ne, ne_eq] at hB
    obtain ⟨⟨_, hne⟩, hr⟩ := hB
    unfold putsF
    obtain ⟨h1, h2⟩ := putsF_same ho r (a.put (dstAt l k) (v k)) hr fun j hj => h j (List.mem_cons_of_mem _ hj)
    rw [h1, h2]
    rcases h k (List.mem_cons_self ..) with he | hd
    · rw [he]; exact ⟨rfl, rfl⟩
    · rw [← putsF_put r a (fun j hj => hne j hj), ← putsF_put r a (fun j hj => hne j hj), execOp_put o ho _ _ _ hd, execOp_put o ho _ _ _ hd, wanted_put o _ _ _ hd, wanted_put o _ _ _ hd]
      exact ⟨rfl, rfl⟩
theorem all_listed {l : List Oper} {listed : Array Bool} (ht : topoB l.toArray l.length = true) (hsz : listed.size = l.length) (hr : Region.ready .any l.toArray listed = []) : ∀ i, i < l.length → listed.getD i true = true := by
  intro i
  induction i using Nat.strongRecOn with
  | ind i ih =>
    intro hi
    cases hb : listed.getD i true with
    | true => rfl
    | false =>
      exfalso
      have : i ∈ Region.ready .any l.toArray listed := by
        rw [mem_ready]
        refine ⟨hb, l[i], by simp [hi], fun e he hbe => ?_⟩
        unfold topoB at ht
        simp only [List.all_eq_true] at ht
        have := ht i (List.mem_range.2 hi)
        simp only [List.getElem?_toArray, List.getElem?_eq_getElem hi] at this
        simp only [Array.all_eq_true_iff_forall_mem, Bool.or_eq_true, Bool.not_eq_true', decide_eq_true_eq] at this
        have hlt : e.on < i := by
          rcases this e he with h | h
          · rw [h] at hbe; cases hbe
          · exact h
        have hl := ih e.on hlt (by omega)
        have hlt2 : e.on < listed.size := by omega
        simp [hlt2] at hl ⊢; exact hl
      rw [hr] at this; cases this
theorem StepR.oper {o : Oper} {a b : Act} {w : World} {G : Value → World → Prop} {K : Act → World → Prop} (he : execOp a.eval o = execOp b.eval o) (h : StepR P G ((execOp b.eval o).run P w)) (hK : ∀ u w', G u w' → K (a.put o.dst u) w') : o.wp P a w K NoQ := by
  unfold Oper.wp
  rw [he]
  generalize (execOp b.eval o).run P w = r at *
  cases r with
  | ok n w' =>
    cases n <;> simp only [StepR] at h <;> simp only [Oper.upon]
    case value u => exact hK _ _ h
    case skip => exact hK _ _ h
    case enter f args =>
      refine Calls.mono h fun e w'' ⟨u, he, hg⟩ => ?_
      subst he
      exact hK _ _ hg
  | halt x w' => exact h.elim
/-- THE LAW. -/
theorem wp_region_I {id : Nat} {a : Act} {w : World} {l : List Oper} (n : Nat) (M : List Nat) (fr : List Nat) (vs : List ((Nat → Nat) → Value)) (R : (Nat → Nat) → (Nat → Bool) → World → Prop) (A : (Nat → Nat) → Act) (ds : List (Nat × Nat)) (idx : List Nat)
    (hn : l.length = n) (hm : P.follows .mixedOrders = true) (hB : checkI l M = true)
    (hds : (slotsB l ds && (ds.map (·.1) == dstsI l) && (idx == List.range n)) = true)
    (hA : ∀ p, A p = putsD (fun j => (vs.getD j vI) p) ds a)
    (hV0 : ∀ p q, AllI (fun i => AllI (fun j => (Nat.beq j i || (M.getD j 0).testBit i) = true ∨ (vs.getD j vI) (upN p i q) = (vs.getD j vI) p) idx) fr)
    (h0 : ∀ p, R p (fun _ => false) w.drew)
    (hmore : ∀ p L w1 w2, R p L w1 → More w1 w2 → R p L w2)
    (hs : (∀ p L w1 w2, R p L w1 → More w1 w2 → R p L w2) → AllI (StepI P l M vs R A fr) idx)
    (he : ∀ p w1, R p (fun j => decide (j < n)) w1 → wpList P l.toArray Q [] (A p) w1) : (Code.region id l.toArray true).wp P Q a w := by
  simp only [Bool.and_eq_true, beq_iff_eq] at hds
  obtain ⟨⟨hds1, hds2⟩, rfl⟩ := hds
  have hA : ∀ p, A p = putsF l (fun j => (vs.getD j vI) p) (dstsI l) a := fun p => by rw [hA p, ← hds2, putsF_D ds a hds1]
  have hV : ∀ i ∈ fr, ∀ p q j, j < n → (j = i ∨ (M.getD j 0).testBit i = true) ∨ (vs.getD j vI) (upN p i q) = (vs.getD j vI) p := fun i hi p q j hj => by
    have := AllI_get _ (AllI_get _ (hV0 p q) i hi) j (List.mem_range.2 hj)
    refine this.imp (fun h => ?_) (fun h => h)
    rcases Bool.or_eq_true_iff.1 h with h | h
    · exact .inl (Nat.eq_of_beq_eq_true h)
    · exact .inr h
  simp only [checkI, Bool.and_eq_true, beq_iff_eq] at hB
  obtain ⟨⟨⟨⟨hsel, htopo⟩, hap⟩, hM⟩, hlook⟩ := hB
  subst hM
  have hsel' := Region.noSelect_spec hsel
  have hs' := AllI_get _ (hs hmore)
  have hsize : l.toArray.size = n := by simpa using hn
  refine wp_region_any hm ?_
  rw [hsize]
  obtain ⟨v0, hv0⟩ := putsF_ex l (dstsI l) a hap
  have hmem : ∀ k, k ∈ dstsI l ↔ k < l.length ∧ (dstAt l k).isSome = true := fun k => by simp [dstsI]
  have main : ∀ (f : Nat) (listed : Array Bool) (v : Nat → Value) (p : Nat → Nat) (w' : World), Closed l.toArray listed → listed.size = n →
      (∀ k, listed.getD k false = true → v k = (vs.getD k vI) p) → R p (fun j => listed.getD j false) w' → cnt listed n = f →
      wpAny P .any l.toArray Q f listed (putsF l v (dstsI l) a) w' := by
    have hdone : ∀ (listed : Array Bool) (v : Nat → Value) (p : Nat → Nat) (w' : World), listed.size = n → (∀ i, i < n → listed.getD i true = true) →
        (∀ k, listed.getD k false = true → v k = (vs.getD k vI) p) → R p (fun j => listed.getD j false) w' → Q .normal (putsF l v (dstsI l) a) w' := by
      intro listed v p w' hsz hall hv hR
      have hLt : ∀ j, j < n → listed.getD j false = true := fun j hj => by
        have h1 := hall j hj
        have h2 : j < listed.size := by omega
        simp [h2] at h1 ⊢; exact h1
      have hL : (fun j => listed.getD j false) = fun j => decide (j < n) := by
        funext j
        by_cases hj : j < n
        · rw [hLt j hj]; simp [hj]
        · simp [hj, Array.getElem?_eq_none (show listed.size ≤ j by omega)]
      rw [hL] at hR
      have := he p w' hR
      rw [hA p, ← putsF_congr (v := v) (dstsI l) a (fun k hk => hv k (hLt k (by have := ((hmem k).1 hk).1; omega)))] at this
      exact this
    intro f
    induction f with
    | zero =>
      intro listed v p w' hcl hsz hv hR hc
      have hall := cnt_zero hc
      refine ⟨?_, hdone listed v p w' hsz hall hv hR⟩
      apply List.eq_nil_iff_forall_not_mem.2
      intro j hj
      obtain ⟨hun, o, ho, _⟩ := mem_ready.1 hj
      have hjn : j < n := by have := (Array.getElem?_eq_some_iff.1 ho).1; omega
      rw [hall j hjn] at hun; cases hun
    | succ f ih =>
      intro listed v p w' hcl hsz hv hR hc
      refine ⟨fun hr => hdone listed v p w' hsz (fun i hi => all_listed htopo (by omega) hr i (by omega)) hv hR, fun i hi => ?_⟩
      have hi' := hi
      obtain ⟨hun, o, ho, hafter⟩ := mem_ready.1 hi
      have hin : i < n := by have := (Array.getElem?_eq_some_iff.1 ho).1; omega
      have ho' : l[i]? = some o := by simpa using ho
      obtain ⟨o2, ho2, hst⟩ := hs' i (List.mem_range.2 hin)
      obtain rfl : o = o2 := Option.some.inj (ho'.symm.trans ho2)
      have hunf : listed.getD i false = false := by
        have h2 : i < listed.size := by omega
        simp [h2] at hun ⊢; exact hun
      have hdeps : ∀ j, ((masks l []).getD i 0).testBit j = true → listed.getD j false = true := fun j hb =>
        masks_bit hcl i j hb fun o' ho'' d hd hbd => hafter d (by rw [ho'] at ho''; cases ho''; exact hd) hbd
      have hnot : ∀ j, ((masks l []).getD j 0).testBit i = true → listed.getD j false = false := fun j hb => by
        cases hl : listed.getD j false with
        | false => rfl
        | true =>
          have := masks_bit hcl j i hb fun o' ho'' d hd hbd => hcl j o' (by simpa using ho'') hl d hd hbd
          rw [hunf] at this; cases this
      have hsame := putsF_same (l := l) (v := v) (v' := fun j => (vs.getD j vI) p) (o := o) (fun cs b => hsel' i o cs b ho) (dstsI l) a hap fun k hk => by
        by_cases hlk : listed.getD k false = true
        · exact .inl (hv k hlk)
        · refine .inr fun d hd hin' => hlk (hdeps k ?_)
          unfold looksB at hlook
          simp only [List.all_eq_true, List.mem_range] at hlook
          have h3 := hlook i (by omega)
          rw [ho'] at h3
          simp only [List.all_eq_true, List.mem_range] at h3
          have h4 := h3 k ((hmem k).1 hk).1
          rw [hd] at h4
          simp only [Bool.or_eq_true, Bool.not_eq_true'] at h4
          rcases h4 with h4 | h4
          · have : (o.looksAt l.toArray).contains d = true := List.contains_iff_mem.2 hin'
            rw [h4] at this; cases this
          · exact h4
      rw [← hA p] at hsame
      have hdst : dstAt l i = o.dst := by unfold dstAt; rw [ho']; rfl
      have hgo : ∀ (q : Nat) (u : Value) (w2 : World), (fr.contains i = false → q = p i) → u = (vs.getD i vI) (upN p i q) → R (upN p i q) (upL (fun j => listed.getD j false) i) w2 →
          wpAny P .any l.toArray Q f (listed.setIfInBounds i true) ((putsF l v (dstsI l) a).put o.dst u) w2 := by
        intro q u w2 hq hu hR2
        have hput : (putsF l v (dstsI l) a).put o.dst u = putsF l (updF v i u) (dstsI l) a := by
          rw [← hdst]
          by_cases hd : (dstAt l i).isSome = true
          · exact putsF_upd (dstsI l) a hap ((hmem i).2 ⟨by omega, hd⟩)
          · have hnone : dstAt l i = none := by cases h : dstAt l i with | none => rfl | some d => rw [h] at hd; exact absurd rfl hd
            rw [hnone]
            show putsF l v (dstsI l) a = _
            refine putsF_congr _ _ fun k hk => ?_
            unfold updF
            rw [if_neg]
            rintro rfl
            exact hd ((hmem k).1 hk).2
        rw [hput]
        have hLs : ∀ k, (listed.setIfInBounds i true).getD k false = upL (fun j => listed.getD j false) i k := fun k => by
          rw [upL_eq]
          by_cases hk : k = i
          · subst hk
            have h2 : k < listed.size := by omega
            simp [h2]
          · rw [if_neg hk, getD_set_ne false (Ne.symm hk)]
        refine ih (listed.setIfInBounds i true) (updF v i u) (upN p i q) w2 (hcl.set hi') (by simpa using hsz) (fun k hk => ?_) ?_ ?_
        · unfold updF
          by_cases hki : k = i
          · subst hki; rw [if_pos rfl, hu]
          · rw [if_neg hki]
            have hlk : listed.getD k false = true := by rw [getD_set_ne false (Ne.symm hki)] at hk; exact hk
            rw [hv k hlk]
            by_cases hfr : fr.contains i = true
            · have hkn : k < n := by
                rcases Nat.lt_or_ge k n with hx | hx
                · exact hx
                · simp [Array.getElem?_eq_none (show listed.size ≤ k by omega)] at hlk
              rcases hV i (by simpa using hfr) p q k hkn with (h | h) | h
              · exact absurd h hki
              · have := masks_bit hcl k i h fun o' ho'' d hd hbd => hcl k o' (by simpa using ho'') hlk d hd hbd
                rw [hunf] at this; cases this
              · exact h.symm
            · have : q = p i := hq (by cases hx : fr.contains i with | false => rfl | true => exact absurd hx hfr)
              rw [this, upN_self]
        · have : (fun j => (listed.setIfInBounds i true).getD j false) = upL (fun j => listed.getD j false) i := funext hLs
          rw [this]; exact hR2
        · have := cnt_set hin hun; omega
      refine wpOp_noQ ?_
      unfold Go.wpOp
      simp only [ho]
      rcases hst p (fun j => listed.getD j false) w' hR hunf hdeps hnot with ⟨hw, hstep⟩ | ⟨hw, hu, hR2⟩
      · rw [hsame.2, if_pos hw]
        exact .inl (StepR.oper (K := wpAny P .any l.toArray Q f (listed.setIfInBounds i true)) hsame.1 hstep (fun u w2 ⟨q, hq, hu, hR2⟩ => hgo q u w2 hq hu hR2))
      · rw [hsame.2, if_neg (by rw [hw]; decide)]
        exact hgo (p i) undef w' (fun _ => rfl) (by rw [upN_self]; exact hu.symm) (by rw [upN_self]; exact hR2)
  have hcnt : cnt (Array.replicate n false) n = n := by
    unfold cnt
    rw [List.countP_eq_length.2 (fun i hi => ?_), List.length_range]
    have : i < n := List.mem_range.1 hi
    simp [this]
  rw [hv0]
  refine main n (Array.replicate n false) v0 (fun _ => 0) w.drew (fun j oj _ hl => ?_) (by simp) (fun k hk => ?_) ?_ hcnt
  · rw [getD_replicate_false] at hl; cases hl
  · rw [getD_replicate_false] at hk; cases hk
  · have : (fun j => (Array.replicate n false).getD j false) = fun _ => false := by funext j; rw [getD_replicate_false]
    rw [this]; exact h0 _
def prefM (n : Nat) : List Nat := (List.range n).map fun i => 2 ^ i - 1
theorem prefM_bit {n i j : Nat} (h : ((prefM n).getD i 0).testBit j = true) : i < n ∧ j < i := by
  unfold prefM at h
  rcases Nat.lt_or_ge i n with hi | hi
  · rw [List.getD, List.getElem?_map, List.getElem?_range hi] at h
    simp only [Option.map_some, Option.getD_some, Nat.testBit_two_pow_sub_one, decide_eq_true_eq] at h
    exact ⟨hi, h⟩
  · rw [List.getD, List.getElem?_map, List.getElem?_eq_none (by simp [hi])] at h
    simp at h
def checkQ (l : List Oper) (M : List Nat) : Bool := Region.noSelect l.toArray && apartB l (dstsI l) && (prefM l.length == M) && looksB l M
/-- THE LAW for a region whose order stands. -/
theorem wp_region_Q {id : Nat} {a : Act} {w : World} {l : List Oper} (n : Nat) (M : List Nat) (fr : List Nat) (vs : List ((Nat → Nat) → Value)) (R : (Nat → Nat) → (Nat → Bool) → World → Prop) (A : (Nat → Nat) → Act) (ds : List (Nat × Nat)) (idx : List Nat)
    (hn : l.length = n) (hB : checkQ l M = true)
    (hds : (slotsB l ds && (ds.map (·.1) == dstsI l) && (idx == List.range n)) = true)
    (hA : ∀ p, A p = putsD (fun j => (vs.getD j vI) p) ds a)
    (hV0 : ∀ p q, AllI (fun i => AllI (fun j => (Nat.beq j i || (M.getD j 0).testBit i) = true ∨ (vs.getD j vI) (upN p i q) = (vs.getD j vI) p) idx) fr)
    (h0 : ∀ p, R p (fun _ => false) w)
    (hmore : ∀ p L w1 w2, R p L w1 → More w1 w2 → R p L w2)
    (hs : (∀ p L w1 w2, R p L w1 → More w1 w2 → R p L w2) → AllI (StepI P l M vs R A fr) idx)
    (he : ∀ p w1, R p (fun j => decide (j < n)) w1 → wpList P l.toArray Q [] (A p) w1) : (Code.region id l.toArray false).wp P Q a w := by
  simp only [Bool.and_eq_true, beq_iff_eq] at hds
  obtain ⟨⟨hds1, hds2⟩, rfl⟩ := hds
  have hA : ∀ p, A p = putsF l (fun j => (vs.getD j vI) p) (dstsI l) a := fun p => by rw [hA p, ← hds2, putsF_D ds a hds1]
  have hV : ∀ i ∈ fr, ∀ p q j, j < n → (j = i ∨ (M.getD j 0).testBit i = true) ∨ (vs.getD j vI) (upN p i q) = (vs.getD j vI) p := fun i hi p q j hj => by
    have := AllI_get _ (AllI_get _ (hV0 p q) i hi) j (List.mem_range.2 hj)
    refine this.imp (fun h => ?_) (fun h => h)
    rcases Bool.or_eq_true_iff.1 h with h | h
    · exact .inl (Nat.eq_of_beq_eq_true h)
    · exact .inr h
  simp only [checkQ, Bool.and_eq_true, beq_iff_eq] at hB
  obtain ⟨⟨⟨hsel, hap⟩, hM⟩, hlook⟩ := hB
  subst hM
  have hsel' := Region.noSelect_spec hsel
  have hs' := AllI_get _ (hs hmore)
  have hsize : l.toArray.size = n := by simpa using hn
  refine wp_region ?_
  rw [hsize]
  obtain ⟨v0, hv0⟩ := putsF_ex l (dstsI l) a hap
  have hmem : ∀ k, k ∈ dstsI l ↔ k < l.length ∧ (dstAt l k).isSome = true := fun k => by simp [dstsI]
  have main : ∀ (r i : Nat) (v : Nat → Value) (p : Nat → Nat) (w' : World), i + r = n → (∀ k, k < i → v k = (vs.getD k vI) p) → R p (fun j => decide (j < i)) w' →
      wpOps P l.toArray Q (List.range' i r) (putsF l v (dstsI l) a) w' := by
    intro r
    induction r with
    | zero =>
      intro i v p w' hir hv hR
      obtain rfl : i = n := by omega
      have := he p w' hR
      rw [hA p, ← putsF_congr (v := v) (dstsI l) a (fun k hk => hv k (by have := ((hmem k).1 hk).1; omega))] at this
      exact this
    | succ r ih =>
      intro i v p w' hir hv hR
      have hin : i < n := by omega
      rw [List.range'_succ, wpOps_cons]
      obtain ⟨o, ho', hst⟩ := hs' i (List.mem_range.2 hin)
      have ho : l.toArray[i]? = some o := by simpa using ho'
      have hlen : (prefM l.length) = prefM n := by rw [hn]
      have hsame := putsF_same (l := l) (v := v) (v' := fun j => (vs.getD j vI) p) (o := o) (fun cs b => hsel' i o cs b ho) (dstsI l) a hap fun k hk => by
        by_cases hlk : k < i
        · exact .inl (hv k hlk)
        · refine .inr fun d hd hin' => hlk ?_
          unfold looksB at hlook
          simp only [List.all_eq_true, List.mem_range] at hlook
          have h3 := hlook i (by omega)
          rw [ho'] at h3
          simp only [List.all_eq_true, List.mem_range] at h3
          have h4 := h3 k ((hmem k).1 hk).1
          rw [hd] at h4
          simp only [Bool.or_eq_true, Bool.not_eq_true'] at h4
          rcases h4 with h4 | h4
          · have : (o.looksAt l.toArray).contains d = true := List.contains_iff_mem.2 hin'
            rw [h4] at this; cases this
          · exact (prefM_bit h4).2
      rw [← hA p] at hsame
      have hdst : dstAt l i = o.dst := by unfold dstAt; rw [ho']; rfl
      have hgo : ∀ (q : Nat) (u : Value) (w2 : World), (fr.contains i = false → q = p i) → u = (vs.getD i vI) (upN p i q) → R (upN p i q) (upL (fun j => decide (j < i)) i) w2 →
          wpOps P l.toArray Q (List.range' (i + 1) r) ((putsF l v (dstsI l) a).put o.dst u) w2 := by
        intro q u w2 hq hu hR2
        have hput : (putsF l v (dstsI l) a).put o.dst u = putsF l (updF v i u) (dstsI l) a := by
          rw [← hdst]
          by_cases hd : (dstAt l i).isSome = true
          · exact putsF_upd (dstsI l) a hap ((hmem i).2 ⟨by omega, hd⟩)
          · have hnone : dstAt l i = none := by cases h : dstAt l i with | none => rfl | some d => rw [h] at hd; exact absurd rfl hd
            rw [hnone]
            show putsF l v (dstsI l) a = _
            refine putsF_congr _ _ fun k hk => ?_
            unfold updF
            rw [if_neg]
            rintro rfl
            exact hd ((hmem k).1 hk).2
        rw [hput]
        refine ih (i + 1) (updF v i u) (upN p i q) w2 (by omega) (fun k hk => ?_) ?_
        · unfold updF
          by_cases hki : k = i
          · subst hki; rw [if_pos rfl, hu]
          · rw [if_neg hki, hv k (by omega)]
            by_cases hfr : fr.contains i = true
            · rcases hV i (by simpa using hfr) p q k (by omega) with (h | h) | h
              · exact absurd h hki
              · have := (prefM_bit h).2; omega
              · exact h.symm
            · have : q = p i := hq (by cases hx : fr.contains i with | false => rfl | true => exact absurd hx hfr)
              rw [this, upN_self]
        · have : upL (fun j => decide (j < i)) i = fun j => decide (j < i + 1) := by
            funext j
            rw [upL_eq]
            by_cases hj : j = i
            · simp [hj]
            · rw [if_neg hj]
              have : (j < i) = (j < i + 1) := by apply propext; omega
              simp [this]
          rw [this] at hR2; exact hR2
      refine wpOp_noQ ?_
      unfold Go.wpOp
      simp only [ho]
      rcases hst p (fun j => decide (j < i)) w' hR (by simp) (fun j hb => decide_eq_true (prefM_bit hb).2) (fun j hb => decide_eq_false (by have := (prefM_bit hb).2; omega)) with ⟨hw, hstep⟩ | ⟨hw, hu, hR2⟩
      · rw [hsame.2, if_pos hw]
        exact .inl (StepR.oper (K := wpOps P l.toArray Q (List.range' (i + 1) r)) hsame.1 hstep (fun u w2 ⟨q, hq, hu, hR2⟩ => hgo q u w2 hq hu hR2))
      · rw [hsame.2, if_neg (by rw [hw]; decide)]
        exact hgo (p i) undef w' (fun _ => rfl) (by rw [upN_self]; exact hu.symm) (by rw [upN_self]; exact hR2)
  rw [List.range_eq_range', hv0]
  refine main n 0 v0 (fun _ => 0) w (by omega) (fun k hk => by omega) ?_
  have : (fun j => decide (j < 0)) = fun _ => false := by funext j; simp
  rw [this]; exact h0 _
/-! ### The steps -/
variable {l : List Oper} {M : List Nat} {vs : List ((Nat → Nat) → Value)} {R : (Nat → Nat) → (Nat → Bool) → World → Prop} {A : (Nat → Nat) → Act} {fr : List Nat} {o : Oper}
/-- What a step knows. -/
abbrev KnowI (M : List Nat) (R : (Nat → Nat) → (Nat → Bool) → World → Prop) (i : Nat) (L : Nat → Bool) : Prop := L i = false ∧ (∀ j, (M.getD i 0).testBit j = true → L j = true) ∧ (∀ j, (M.getD j 0).testBit i = true → L j = false)
theorem stepI_gen (i : Nat) (ho : l[i]? = some o) (hw : ∀ p, Region.wanted o (yielded l.toArray (A p).tmps) = true)
    (h : ∀ p L w1, R p L w1 → KnowI M R i L → StepR P (fun u w2 => ∃ q, (fr.contains i = false → q = p i) ∧ u = (vs.getD i vI) (upN p i q) ∧ R (upN p i q) (upL L i) w2) ((execOp (A p).eval o).run P w1)) : StepI P l M vs R A fr i :=
  ⟨o, ho, fun p L w1 hR h1 h2 h3 => .inl ⟨hw p, h p L w1 hR ⟨h1, h2, h3⟩⟩⟩
theorem stepI_val (i : Nat) (ho : l[i]? = some o) (hw : ∀ p, Region.wanted o (yielded l.toArray (A p).tmps) = true)
    (h : ∀ p L w1, R p L w1 → KnowI M R i L → ValR ((vs.getD i vI) p) w1 ((execOp (A p).eval o).run P w1)) (hR : ∀ p L w1, R p L w1 → R p (upL L i) w1) : StepI P l M vs R A fr i :=
  stepI_gen i ho hw fun p L w1 hr hk => by
    rw [(h p L w1 hr hk).eq]
    exact ⟨p i, fun _ => rfl, by rw [upN_self], by rw [upN_self]; exact hR _ _ _ hr⟩
theorem stepI_det (i : Nat) (ho : l[i]? = some o) (hw : ∀ p, Region.wanted o (yielded l.toArray (A p).tmps) = true)
    (h : ∀ p L w1, R p L w1 → KnowI M R i L → DetR P (More w1) ((vs.getD i vI) p) ((execOp (A p).eval o).run P w1)) (hR : ∀ p L w1 w2, R p L w1 → More w1 w2 → R p (upL L i) w2) : StepI P l M vs R A fr i :=
  stepI_gen i ho hw fun p L w1 hr hk => by
    have h1 := h p L w1 hr hk
    generalize (execOp (A p).eval o).run P w1 = r at *
    cases r with
    | ok n w' =>
      cases n <;> simp only [DetR] at h1 <;> simp only [StepR]
      case value u => exact ⟨p i, fun _ => rfl, by rw [upN_self]; exact h1.1, by rw [upN_self]; exact hR _ _ _ _ hr h1.2⟩
      case skip => exact ⟨p i, fun _ => rfl, by rw [upN_self]; exact h1.1.symm, by rw [upN_self]; exact hR _ _ _ _ hr h1.2⟩
      case enter f args => exact h1.mono fun e w'' ⟨he, hs⟩ => ⟨_, he, p i, fun _ => rfl, by rw [upN_self], by rw [upN_self]; exact hR _ _ _ _ hr hs⟩
    | halt x w' => exact h1.elim
/-- The same, one behind the other. -/
theorem stepV (i : Nat) {r : List Nat} (ho : l[i]? = some o) (hg : o.guard = none) (hR : ∀ p L w1, R p L w1 → R p (upL L i) w1)
    (h : ∀ p L w1, R p L w1 → KnowI M R i L → ValR ((vs.getD i vI) p) w1 ((execOp (A p).eval o).run P w1)) (k : AllI (StepI P l M vs R A fr) r) : AllI (StepI P l M vs R A fr) (i :: r) :=
  ⟨stepI_val i ho (fun p => by simp [Region.wanted, hg]) h hR, k⟩
theorem stepVg (i : Nat) {r : List Nat} (ho : l[i]? = some o) (hw : ∀ p, Region.wanted o (yielded l.toArray (A p).tmps) = true) (hR : ∀ p L w1, R p L w1 → R p (upL L i) w1)
    (h : ∀ p L w1, R p L w1 → KnowI M R i L → ValR ((vs.getD i vI) p) w1 ((execOp (A p).eval o).run P w1)) (k : AllI (StepI P l M vs R A fr) r) : AllI (StepI P l M vs R A fr) (i :: r) :=
  ⟨stepI_val i ho hw h hR, k⟩
theorem stepD (i : Nat) {r : List Nat} (ho : l[i]? = some o) (hw : ∀ p, Region.wanted o (yielded l.toArray (A p).tmps) = true) (hR : ∀ p L w1, R p L w1 → R p (upL L i) w1) (hm : ∀ p L w1 w2, R p L w1 → More w1 w2 → R p L w2)
    (h : ∀ p L w1, R p L w1 → KnowI M R i L → DetR P (More w1) ((vs.getD i vI) p) ((execOp (A p).eval o).run P w1)) (k : AllI (StepI P l M vs R A fr) r) : AllI (StepI P l M vs R A fr) (i :: r) :=
  ⟨stepI_det i ho hw h (fun p L w1 w2 h1 h2 => hR _ _ _ (hm _ _ _ _ h1 h2)), k⟩
/-- An operation that is not wanted. -/
theorem stepI_off (i : Nat) (ho : l[i]? = some o) (hw : ∀ p, Region.wanted o (yielded l.toArray (A p).tmps) = false) (hv : ∀ p, (vs.getD i vI) p = undef) (hR : ∀ p L w1, R p L w1 → R p (upL L i) w1) : StepI P l M vs R A fr i :=
  ⟨o, ho, fun p L w1 hr _ _ _ => .inr ⟨hw p, hv p, hR _ _ _ hr⟩⟩
/-- An operation that makes a block. -/
theorem stepI_alloc (i : Nat) (ho : l[i]? = some o) (hw : ∀ p, Region.wanted o (yielded l.toArray (A p).tmps) = true) (hfr : fr.contains i = true) (c : Array Value) (t : TypeId)
    (hv : ∀ p, (vs.getD i vI) p = .pointer (some ⟨p i, 0, none⟩))
    (h : ∀ p w1, (execOp (A p).eval o).run P w1 = .ok (.value (.pointer (some ⟨w1.heap.size, 0, none⟩))) (w1.alloc (.cells c t)))
    (hR : ∀ p L w1, R p L w1 → KnowI M R i L → R (upN p i w1.heap.size) (upL L i) (w1.alloc (.cells c t))) : StepI P l M vs R A fr i :=
  stepI_gen i ho hw fun p L w1 hr hk => by
    rw [h p w1]
    exact ⟨w1.heap.size, fun h => (by rw [hfr] at h; cases h), by rw [hv, upN_same], hR _ _ _ hr hk⟩
/-- The same for whatever stands for the block. -/
theorem stepI_fresh (i : Nat) (ho : l[i]? = some o) (hw : ∀ p, Region.wanted o (yielded l.toArray (A p).tmps) = true) (hfr : fr.contains i = true) (mk : Nat → Value) (c : (Nat → Nat) → Array Value) (t : TypeId)
    (hv : ∀ p, (vs.getD i vI) p = mk (p i))
    (h : ∀ p w1, (execOp (A p).eval o).run P w1 = .ok (.value (mk w1.heap.size)) (w1.alloc (.cells (c p) t)))
    (hR : ∀ p L w1, R p L w1 → KnowI M R i L → R (upN p i w1.heap.size) (upL L i) (w1.alloc (.cells (c p) t))) : StepI P l M vs R A fr i :=
  stepI_gen i ho hw fun p L w1 hr hk => by
    rw [h p w1]
    exact ⟨w1.heap.size, fun h => (by rw [hfr] at h; cases h), by rw [hv, upN_same], hR _ _ _ hr hk⟩
/-- A call that makes a block and hands it back. -/
theorem stepI_new (i : Nat) (ho : l[i]? = some o) (hw : ∀ p, Region.wanted o (yielded l.toArray (A p).tmps) = true) (hfr : fr.contains i = true) (mk : Nat → Value) (c : Array Value) (t : TypeId)
    (hv : ∀ p, (vs.getD i vI) p = mk (p i))
    (h : ∀ p L w1, R p L w1 → KnowI M R i L → StepR P (fun u w2 => ∃ b, u = mk b ∧ blk w2 b c t ∧ w1.heap.size ≤ b ∧ More w1 w2) ((execOp (A p).eval o).run P w1))
    (hR : ∀ p L w1 w2 b, R p L w1 → KnowI M R i L → blk w2 b c t → w1.heap.size ≤ b → More w1 w2 → R (upN p i b) (upL L i) w2) : StepI P l M vs R A fr i :=
  stepI_gen i ho hw fun p L w1 hr hk => (h p L w1 hr hk).imp fun u w2 ⟨b, hu, hb, hle, hm⟩ =>
    ⟨b, fun h => (by rw [hfr] at h; cases h), by rw [hv, upN_same]; exact hu, hR _ _ _ _ _ hr hk hb hle hm⟩
/-- A call that turns one block and makes memory. -/
theorem stepI_mut (i : Nat) (ho : l[i]? = some o) (hw : ∀ p, Region.wanted o (yielded l.toArray (A p).tmps) = true) (g : (Nat → Nat) → Nat) (c' : (Nat → Nat) → Array Value)
    (h : ∀ p L w1, R p L w1 → KnowI M R i L → DetR P (fun w2 => Below w1.heap.size (w1.setRow (g p) (c' p)) w2) ((vs.getD i vI) p) ((execOp (A p).eval o).run P w1))
    (hR : ∀ p L w1 w2, R p L w1 → KnowI M R i L → Below w1.heap.size (w1.setRow (g p) (c' p)) w2 → R p (upL L i) w2) : StepI P l M vs R A fr i :=
  stepI_gen i ho hw fun p L w1 hr hk => by
    have h1 := h p L w1 hr hk
    generalize (execOp (A p).eval o).run P w1 = r at *
    cases r with
    | ok n w' =>
      cases n <;> simp only [DetR] at h1 <;> simp only [StepR]
      case value u => exact ⟨p i, fun _ => rfl, by rw [upN_self]; exact h1.1, by rw [upN_self]; exact hR _ _ _ _ hr hk h1.2⟩
      case skip => exact ⟨p i, fun _ => rfl, by rw [upN_self]; exact h1.1.symm, by rw [upN_self]; exact hR _ _ _ _ hr hk h1.2⟩
      case enter f args => exact h1.mono fun e w'' ⟨he, hs⟩ => ⟨_, he, p i, fun _ => rfl, by rw [upN_self], by rw [upN_self]; exact hR _ _ _ _ hr hk hs⟩
    | halt x w' => exact h1.elim
/-- An operation that stores a whole array into a part of a block. -/
theorem stepI_store (i : Nat) (ho : l[i]? = some o) (hw : ∀ p, Region.wanted o (yielded l.toArray (A p).tmps) = true) (hv : ∀ p, (vs.getD i vI) p = undef)
    (ty : TypeId) (x y : Operand) (hop : o.op = .store ty x y) (g : (Nat → Nat) → Nat) (off : Nat) (hx : ∀ p, (A p).eval x = .pointer (some ⟨g p, off, none⟩)) (cs : (Nat → Nat) → Array Value) (hy : ∀ p, (A p).eval y = .agg (cs p))
    (c c' : (Nat → Nat) → Array Value) (t : TypeId) (hc : ∀ p, over (c p) off (cs p).toList = c' p) (hn : ∀ p, off + (cs p).size ≤ (c p).size) (hi : ∀ p, (P.info? ty).map (·.size) = some (cs p).size) (h1 : ∀ p, (cs p).all (·.oneCell') = true)
    (hg : ∀ p L w1, R p L w1 → KnowI M R i L → blk w1 (g p) (c p) t) (hR : ∀ p L w1, R p L w1 → KnowI M R i L → R p (upL L i) (w1.setRow (g p) (c' p))) : StepI P l M vs R A fr i :=
  stepI_gen i ho hw fun p L w1 hr hk => by
    unfold execOp
    simp only [hop, hx, hy, run_storeAt_mid w1 (g p) off ty (cs p) ((hg p L w1 hr hk).there (hn p)) (hi p) (h1 p), Sem.run_bind, Sem.run_pure, Result.andThen_ok]
    refine ⟨p i, fun _ => rfl, by rw [upN_self, hv], ?_⟩
    rw [upN_self, setCells_row _ _ _ _ (hg p L w1 hr hk), hc]
    exact hR _ _ _ hr hk
end
theorem rowBoth {B : Nat} {a w : World} (h : Below B a w) (g : Nat) (c : Array Value) : Below B (a.setRow g c) (w.setRow g c) :=
  ⟨h.os, h.tape, h.output, by simpa using h.size, fun k hk => by
    by_cases hkg : k = g
    · subst hkg
      unfold World.setRow
      simp only [Array.getElem?_modify, if_true, h.block k hk]
    · rw [setRow_other _ _ _ _ hkg, setRow_other _ _ _ _ hkg, h.block k hk]⟩
end Go.Proofs.Ytkmelddejdikgaa
