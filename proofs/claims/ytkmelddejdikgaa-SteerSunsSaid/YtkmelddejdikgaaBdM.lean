/-
  Regions that draw their order, under a condition on the world. No program in sight. Regions that draw their order, by an invariant: what every operation gives, and what memory holds by what has come up. No program in sight. Calls that turn blocks of an interval alone. No program in sight. Wheels and bodies, plainly: what a tick does to them. No function of the program is walked here.
-/
import Derived.Test.YtkmelddejdikgaaGyA
import Derived.OrdersHeld
import Derived.Test.YtkmelddejdikgaaLawQ
import Derived.Test.YtkmelddejdikgaaVUnit
import Derived.Test.YtkmelddejdikgaaVecI
import Derived.Test.YtkmelddejdikgaaBet
set_option linter.unusedSimpArgs false
set_option linter.unusedVariables false
namespace Go.Proofs.Ytkmelddejdikgaa
open Go.RowKit PM Dt
def ValR (v : Value) (w : World) : Result Next → Prop
  | .ok (.value u) w' => u = v ∧ w' = w
  | _ => False
theorem ValR.eq {v : Value} {w : World} {r : Result Next} (h : ValR v w r) : r = .ok (.value v) w := by
  cases r with
  | ok n w' => cases n <;> first | exact h.elim | (obtain ⟨rfl, rfl⟩ := h; rfl)
  | halt x w' => exact h.elim
def Closed (ops : Array Oper) (listed : Array Bool) : Prop :=
  ∀ j oj, ops[j]? = some oj → listed.getD j false = true → ∀ d ∈ oj.after, Region.binds .any d = true → listed.getD d.on false = true
theorem Closed.set {ops : Array Oper} {listed : Array Bool} {i : Nat} (h : Closed ops listed) (hr : i ∈ Region.ready .any ops listed) : Closed ops (listed.setIfInBounds i true) := by
  intro j oj hj hl d hd hb
  refine getD_set_true ?_
  by_cases hij : i = j
  · subst hij
    obtain ⟨_, o, ho, hall⟩ := mem_ready.1 hr
    rw [hj] at ho; cases ho
    exact hall d hd hb
  · rw [getD_set_ne false hij] at hl
    exact h j oj hj hl d hd hb
def reachB (ops : Array Oper) : Nat → Nat → Nat → Bool
  | 0, _, _ => false
  | f + 1, e, i => match ops[e]? with
    | some oe => oe.after.any fun d => Region.binds .any d && (d.on == i || reachB ops f d.on i)
    | none => false
theorem Closed.reach {ops : Array Oper} {listed : Array Bool} (h : Closed ops listed) : ∀ (f e i : Nat), (∀ oe, ops[e]? = some oe → ∀ d ∈ oe.after, Region.binds .any d = true → listed.getD d.on false = true) → reachB ops f e i = true → listed.getD i false = true
  | 0, _, _, _, hr => by simp [reachB] at hr
  | f + 1, e, i, he, hr => by
    unfold reachB at hr
    cases ho : ops[e]? with
    | none => simp [ho] at hr
    | some oe =>
      simp only [ho] at hr
      obtain ⟨k, hk, hr⟩ := Array.any_eq_true.1 hr
      simp only [Bool.and_eq_true, Bool.or_eq_true, beq_iff_eq] at hr
      obtain ⟨hb, hr⟩ := hr
      have hd := Array.getElem_mem hk
      generalize oe.after[k] = d at *
      have hl := he oe ho d hd hb
      rcases hr with rfl | hr
      · exact hl
      · exact h.reach f d.on i (fun od hod d' hd' hb' => h d.on od hod hl d' hd' hb') hr
section
variable {P : Program} {S : World → Prop} {Q : Exit → Act → World → Prop} {e : Nat}
def Ge (S : World → Prop) (e : Nat) (listed : Array Bool) (w : World) : Prop := listed.getD e false = false → S w
theorem Ge.set {i : Nat} {listed : Array Bool} {w : World} (hie : i ≠ e) : Ge S e (listed.setIfInBounds i true) w ↔ Ge S e listed w := by
  unfold Ge; rw [getD_set_ne false hie]
/-! ### The moves -/
theorem valR_part {op : Oper} {a : Act} {w : World} (ty : TypeId) (x : Operand) (ho : op.op = .load ty x) (b o : Nat) (hx : a.eval x = .pointer (some ⟨b, o, none⟩))
    (c : Array Value) (t : TypeId) (hg : blk w b c t) (cs : Array Value) (hc : ∀ j, j < cs.size → c[o + j]? = cs[j]?) (d : TypeDesc)
    (hu : P.underlying ty = some d) (hd : d.isRow = true) (hi : (P.info? ty).map (·.size) = some cs.size) {v : Value} (hv : v = .agg cs) : ValR v w ((execOp a.eval op).run P w) := by
  unfold execOp
  simp only [ho, hx, Instr.loadAt, Instr.sureAddr, Sem.run_bind, Sem.run_pure, Result.andThen_ok, run_loadVar_mid w b o ty cs.toList d (hg.range hc) hu hd (by simpa using hi)]
  exact ⟨by rw [hv], rfl⟩
theorem valR_row {op : Oper} {a : Act} {w : World} (ty : TypeId) (x : Operand) (ho : op.op = .load ty x) (b : Nat) (hx : a.eval x = .pointer (some ⟨b, 0, none⟩))
    (c : Array Value) (t : TypeId) (hg : blk w b c t) (d : TypeDesc)
    (hu : P.underlying ty = some d) (hd : d.isRow = true) (hi : (P.info? ty).map (·.size) = some c.size) {v : Value} (hv : v = .agg c) : ValR v w ((execOp a.eval op).run P w) :=
  valR_part ty x ho b 0 hx c t hg c (fun j _ => by rw [Nat.zero_add]) d hu hd hi hv
end
end Go.Proofs.Ytkmelddejdikgaa
namespace Go.Proofs.Ytkmelddejdikgaa
open Go.RowKit PM Dt
def maskOf (ms : List Nat) (o : Oper) : Nat := o.after.toList.foldl (fun m e => if Region.binds .any e then m ||| (ms.getD e.on 0 ||| 1 <<< e.on) else m) 0
def masks : List Oper → List Nat → List Nat
  | [], ms => ms
  | o :: l, ms => masks l (ms ++ [maskOf ms o])
theorem maskOf_bit {ms : List Nat} {j : Nat} : ∀ (es : List Edge) (m : Nat), (es.foldl (fun m e => if Region.binds .any e then m ||| (ms.getD e.on 0 ||| 1 <<< e.on) else m) m).testBit j = true →
    m.testBit j = true ∨ ∃ e ∈ es, Region.binds .any e = true ∧ (e.on = j ∨ (ms.getD e.on 0).testBit j = true)
  | [], m, h => .inl h
  | e :: es, m, h => by
    rw [List.foldl_cons] at h
    rcases maskOf_bit es _ h with h | ⟨e', he, hb, h⟩
    · by_cases hb : Region.binds .any e = true
      · rw [if_pos hb] at h
        simp only [Nat.testBit_or, Bool.or_eq_true] at h
        rcases h with h | h | h
        · exact .inl h
        · exact .inr ⟨e, List.mem_cons_self .., hb, .inr h⟩
        · refine .inr ⟨e, List.mem_cons_self .., hb, .inl ?_⟩
          rw [Nat.one_shiftLeft, Nat.testBit_two_pow] at h
          simpa using h
      · rw [if_neg hb] at h; exact .inl h
    · exact .inr ⟨e', List.mem_cons_of_mem _ he, hb, h⟩
theorem getD_append_left {α : Type} (a b : List α) (i : Nat) (d : α) (h : i < a.length) : (a ++ b).getD i d = a.getD i d := by
  simp [List.getD, List.getElem?_append_left h]
def BitOk (l : List Oper) (ms : List Nat) : Prop := ∀ i j, (ms.getD i 0).testBit j = true → i < l.length ∧ ∃ o, l[i]? = some o ∧ ∃ e ∈ o.after, Region.binds .any e = true ∧ (e.on = j ∨ (e.on < i ∧ (ms.getD e.on 0).testBit j = true))
theorem masks_ok : ∀ (l pre : List Oper) (ms : List Nat), ms.length = pre.length → BitOk pre ms → BitOk (pre ++ l) (masks l ms)
  | [], pre, ms, _, h => by simpa [masks] using h
  | o :: l, pre, ms, hl, h => by
    have := masks_ok l (pre ++ [o]) (ms ++ [maskOf ms o]) (by simp [hl]) ?_
    · simpa [masks] using this
    intro i j hb
    rcases Nat.lt_or_ge i ms.length with hi | hi
    · rw [getD_append_left _ _ _ _ hi] at hb
      obtain ⟨h1, o', ho', e, he, hbe, h2⟩ := h i j hb
      refine ⟨by simp; omega, o', by rw [List.getElem?_append_left h1]; exact ho', e, he, hbe, h2.imp id fun h3 => ⟨h3.1, ?_⟩⟩
      rw [getD_append_left _ _ _ _ (by omega)]; exact h3.2
    · by_cases hi2 : i = ms.length
      · subst hi2
        have e1 : (ms ++ [maskOf ms o]).getD ms.length 0 = maskOf ms o := by simp [List.getD]
        rw [e1] at hb
        unfold maskOf at hb
        rcases maskOf_bit _ _ hb with h0 | ⟨e, he, hbe, h2⟩
        · simp at h0
        · refine ⟨by simp [hl], o, by rw [hl]; simp, e, by simpa using he, hbe, h2.imp id fun h3 => ?_⟩
          have hlt : e.on < ms.length := by
            rcases Nat.lt_or_ge e.on ms.length with hx | hx
            · exact hx
            · simp [List.getD, List.getElem?_eq_none hx] at h3
          exact ⟨hlt, by rw [getD_append_left _ _ _ _ hlt]; exact h3⟩
      · simp [List.getD, List.getElem?_eq_none (show (ms ++ [maskOf ms o]).length ≤ i by simp; omega)] at hb
theorem masks_bit {l : List Oper} {listed : Array Bool} (hc : Closed l.toArray listed) : ∀ (i j : Nat), ((masks l []).getD i 0).testBit j = true →
    (∀ o, l[i]? = some o → ∀ d ∈ o.after, Region.binds .any d = true → listed.getD d.on false = true) → listed.getD j false = true := by
  have hok : BitOk l (masks l []) := by
    have := masks_ok l [] [] rfl (fun i j h => by simp [List.getD] at h)
    simpa using this
  intro i
  induction i using Nat.strongRecOn with
  | ind i ih =>
    intro j hb hr
    obtain ⟨_, o, ho, e, he, hbe, h2⟩ := hok i j hb
    have h1 := hr o ho e he hbe
    rcases h2 with rfl | ⟨hlt, h3⟩
    · exact h1
    · exact ih e.on hlt j h3 fun o' ho' d hd hbd => hc e.on o' (by simpa using ho') h1 d hd hbd
/-! ### The law -/
def upN (p : Nat → Nat) (i q : Nat) : Nat → Nat := fun j => match Nat.beq j i with | true => q | false => p j
def upL (L : Nat → Bool) (i : Nat) : Nat → Bool := fun j => match Nat.beq j i with | true => true | false => L j
theorem upN_eq (p : Nat → Nat) (i q j : Nat) : upN p i q j = if j = i then q else p j := by
  unfold upN
  by_cases h : j = i
  · subst h; simp
  · have : Nat.beq j i = false := by cases hb : Nat.beq j i with | false => rfl | true => exact absurd (Nat.eq_of_beq_eq_true hb) h
    simp [this, h]
theorem upL_eq (L : Nat → Bool) (i j : Nat) : upL L i j = if j = i then true else L j := by
  unfold upL
  by_cases h : j = i
  · subst h; simp
  · have : Nat.beq j i = false := by cases hb : Nat.beq j i with | false => rfl | true => exact absurd (Nat.eq_of_beq_eq_true hb) h
    simp [this, h]
theorem upN_self (p : Nat → Nat) (i : Nat) : upN p i (p i) = p := by funext j; rw [upN_eq]; split <;> simp_all
theorem upN_same (p : Nat → Nat) (i q : Nat) : upN p i q i = q := by rw [upN_eq, if_pos rfl]
def vI : (Nat → Nat) → Value := fun _ => undef
def StepR (P : Program) (G : Value → World → Prop) : Result Next → Prop
  | .ok (.value u) w => G u w
  | .ok .skip w => G undef w
  | .ok (.enter f args) w => Calls P f args w fun e w' => ∃ u, e = .returned u ∧ G u w'
  | _ => False
theorem StepR.imp {P : Program} {G G' : Value → World → Prop} {r : Result Next} (h : StepR P G r) (hi : ∀ u w, G u w → G' u w) : StepR P G' r := by
  cases r with
  | ok n w =>
    cases n <;> simp only [StepR] at h ⊢ <;> try exact hi _ _ h
    exact h.mono fun e w' ⟨u, he, hg⟩ => ⟨u, he, hi _ _ hg⟩
  | halt x w => exact h.elim
def StepI (P : Program) (l : List Oper) (M : List Nat) (vs : List ((Nat → Nat) → Value)) (R : (Nat → Nat) → (Nat → Bool) → World → Prop) (A : (Nat → Nat) → Act) (fr : List Nat) (i : Nat) : Prop :=
  ∃ o, l[i]? = some o ∧ ∀ p L w1, R p L w1 → L i = false → (∀ j, (M.getD i 0).testBit j = true → L j = true) → (∀ j, (M.getD j 0).testBit i = true → L j = false) →
    (Region.wanted o (yielded l.toArray (A p).tmps) = true ∧ StepR P (fun u w2 => ∃ q, (fr.contains i = false → q = p i) ∧ u = (vs.getD i vI) (upN p i q) ∧ R (upN p i q) (upL L i) w2) ((execOp (A p).eval o).run P w1)) ∨
    (Region.wanted o (yielded l.toArray (A p).tmps) = false ∧ (vs.getD i vI) p = undef ∧ R p (upL L i) w1)
def AllI (Φ : Nat → Prop) : List Nat → Prop
  | [] => True
  | i :: r => Φ i ∧ AllI Φ r
theorem AllI.cons {Φ : Nat → Prop} {i : Nat} {r : List Nat} (h : Φ i) (k : AllI Φ r) : AllI Φ (i :: r) := ⟨h, k⟩
theorem AllI.nil {Φ : Nat → Prop} : AllI Φ [] := trivial
theorem AllI_get {Φ : Nat → Prop} : ∀ (r : List Nat), AllI Φ r → ∀ i ∈ r, Φ i
  | [], _, i, h => by cases h
  | j :: r, ha, i, h => by
    rcases List.mem_cons.1 h with rfl | h
    · exact ha.1
    · exact AllI_get r ha.2 i h
def dstsI (l : List Oper) : List Nat := (List.range l.length).filter fun i => (dstAt l i).isSome
def looksB (l : List Oper) (M : List Nat) : Bool := (List.range l.length).all fun i => match l[i]? with
  | some o => let s := o.looksAt l.toArray; (List.range l.length).all fun k => match dstAt l k with
    | some d => !s.contains d || (M.getD i 0).testBit k
    | none => true
  | none => true
def checkI (l : List Oper) (M : List Nat) : Bool :=
  Region.noSelect l.toArray && topoB l.toArray l.length && apartB l (dstsI l) && (masks l [] == M) && looksB l M
section
variable {P : Program} {Q : Exit → Act → World → Prop}
theorem putsF_same {l : List Oper} {v v' : Nat → Value} {o : Oper} (ho : ∀ cs b, o.op ≠ .select cs b) : ∀ (r : List Nat) (a : Act), apartB l r = true →
    (∀ k ∈ r, v k = v' k ∨ ∀ d, dstAt l k = some d → d ∉ o.looksAt l.toArray) →
    execOp (putsF l v r a).eval o = execOp (putsF l v' r a).eval o ∧ Region.wanted o (yielded l.toArray (putsF l v r a).tmps) = Region.wanted o (yielded l.toArray (putsF l v' r a).tmps)
  | [], _, _, _ => ⟨rfl, rfl⟩
  | k :: r, a, hB, h => by
    simp only [apartB, Bool.and_eq_true, List.all_eq_true, bne_iff_ne, ne_eq] at hB
    obtain ⟨⟨_, hne⟩, hr⟩ := hB
    unfold putsF
    obtain ⟨h1, h2⟩ := putsF_same ho r (a.put (dstAt l k) (v k)) hr fun j hj => h j (List.mem_cons_of_mem _ hj)
    rw [h1, h2]
    rcases h k (List.mem_cons_self ..) with he | hd
    · rw [he]; exact ⟨rfl, rfl⟩
    · rw [← putsF_put r a (fun j hj => hne j hj), ← putsF_put r a (fun j hj => hne j hj), execOp_put o ho _ _ _ hd, execOp_put o ho _ _ _ hd, wanted_put o _ _ _ hd, wanted_put o _ _ _ hd]
      exact ⟨rfl, rfl⟩
theorem all_listed {l : List Oper} {listed : Array Bool} (ht : topoB l.toArray l.length = true) (hsz : listed.size = l.length) (hr : Region.ready .any l.toArray listed = []) : ∀ i, i < l.length → listed.getD i true = true := by
  intro i
  induction i using Nat.strongRecOn with
  | ind i ih =>
    intro hi
    cases hb : listed.getD i true with
    | true => rfl
    | false =>
      exfalso
      have : i ∈ Region.ready .any l.toArray listed := by
        rw [mem_ready]
        refine ⟨hb, l[i], by simp [hi], fun e he hbe => ?_⟩
        unfold topoB at ht
        simp only [List.all_eq_true] at ht
        have := ht i (List.mem_range.2 hi)
        simp only [List.getElem?_toArray, List.getElem?_eq_getElem hi] at this
        simp only [Array.all_eq_true_iff_forall_mem, Bool.or_eq_true, Bool.not_eq_true', decide_eq_true_eq] at this
        have hlt : e.on < i := by
          rcases this e he with h | h
          · rw [h] at hbe; cases hbe
          · exact h
        have hl := ih e.on hlt (by omega)
        have hlt2 : e.on < listed.size := by omega
        simp [hlt2] at hl ⊢; exact hl
      rw [hr] at this; cases this
theorem StepR.oper {o : Oper} {a b : Act} {w : World} {G : Value → World → Prop} {K : Act → World → Prop} (he : execOp a.eval o = execOp b.eval o) (h : StepR P G ((execOp b.eval o).run P w)) (hK : ∀ u w', G u w' → K (a.put o.dst u) w') : o.wp P a w K NoQ := by
  unfold Oper.wp
  rw [he]
  generalize (execOp b.eval o).run P w = r at *
  cases r with
  | ok n w' =>
    cases n <;> simp only [StepR] at h <;> simp only [Oper.upon]
    case value u => exact hK _ _ h
    case skip => exact hK _ _ h
    case enter f args =>
      refine Calls.mono h fun e w'' ⟨u, he, hg⟩ => ?_
      subst he
      exact hK _ _ hg
  | halt x w' => exact h.elim
theorem wp_region_I {id : Nat} {a : Act} {w : World} {l : List Oper} (n : Nat) (M : List Nat) (fr : List Nat) (vs : List ((Nat → Nat) → Value)) (R : (Nat → Nat) → (Nat → Bool) → World → Prop) (A : (Nat → Nat) → Act) (ds : List (Nat × Nat)) (idx : List Nat)
    (hn : l.length = n) (hm : P.follows .mixedOrders = true) (hB : checkI l M = true)
    (hds : (slotsB l ds && (ds.map (·.1) == dstsI l) && (idx == List.range n)) = true)
    (hA : ∀ p, A p = putsD (fun j => (vs.getD j vI) p) ds a)
    (hV0 : ∀ p q, AllI (fun i => AllI (fun j => (Nat.beq j i || (M.getD j 0).testBit i) = true ∨ (vs.getD j vI) (upN p i q) = (vs.getD j vI) p) idx) fr)
    (h0 : ∀ p, R p (fun _ => false) w.drew)
    (hmore : ∀ p L w1 w2, R p L w1 → More w1 w2 → R p L w2)
    (hs : (∀ p L w1 w2, R p L w1 → More w1 w2 → R p L w2) → AllI (StepI P l M vs R A fr) idx)
    (he : ∀ p w1, R p (fun j => decide (j < n)) w1 → wpList P l.toArray Q [] (A p) w1) : (Code.region id l.toArray true).wp P Q a w := by
  simp only [Bool.and_eq_true, beq_iff_eq] at hds
  obtain ⟨⟨hds1, hds2⟩, rfl⟩ := hds
  have hA : ∀ p, A p = putsF l (fun j => (vs.getD j vI) p) (dstsI l) a := fun p => by rw [hA p, ← hds2, putsF_D ds a hds1]
  have hV : ∀ i ∈ fr, ∀ p q j, j < n → (j = i ∨ (M.getD j 0).testBit i = true) ∨ (vs.getD j vI) (upN p i q) = (vs.getD j vI) p := fun i hi p q j hj => by
    have := AllI_get _ (AllI_get _ (hV0 p q) i hi) j (List.mem_range.2 hj)
    refine this.imp (fun h => ?_) (fun h => h)
    rcases Bool.or_eq_true_iff.1 h with h | h
    · exact .inl (Nat.eq_of_beq_eq_true h)
    · exact .inr h
  simp only [checkI, Bool.and_eq_true, beq_iff_eq] at hB
  obtain ⟨⟨⟨⟨hsel, htopo⟩, hap⟩, hM⟩, hlook⟩ := hB
  subst hM
  have hsel' := Region.noSelect_spec hsel
  have hs' := AllI_get _ (hs hmore)
  have hsize : l.toArray.size = n := by simpa using hn
  refine wp_region_any hm ?_
  rw [hsize]
  obtain ⟨v0, hv0⟩ := putsF_ex l (dstsI l) a hap
  have hmem : ∀ k, k ∈ dstsI l ↔ k < l.length ∧ (dstAt l k).isSome = true := fun k => by simp [dstsI]
  have main : ∀ (f : Nat) (listed : Array Bool) (v : Nat → Value) (p : Nat → Nat) (w' : World), Closed l.toArray listed → listed.size = n →
      (∀ k, listed.getD k false = true → v k = (vs.getD k vI) p) → R p (fun j => listed.getD j false) w' → cnt listed n = f →
      wpAny P .any l.toArray Q f listed (putsF l v (dstsI l) a) w' := by
    have hdone : ∀ (listed : Array Bool) (v : Nat → Value) (p : Nat → Nat) (w' : World), listed.size = n → (∀ i, i < n → listed.getD i true = true) →
        (∀ k, listed.getD k false = true → v k = (vs.getD k vI) p) → R p (fun j => listed.getD j false) w' → Q .normal (putsF l v (dstsI l) a) w' := by
      intro listed v p w' hsz hall hv hR
      have hLt : ∀ j, j < n → listed.getD j false = true := fun j hj => by
        have h1 := hall j hj
        have h2 : j < listed.size := by omega
        simp [h2] at h1 ⊢; exact h1
      have hL : (fun j => listed.getD j false) = fun j => decide (j < n) := by
        funext j
        by_cases hj : j < n
        · rw [hLt j hj]; simp [hj]
        · simp [hj, Array.getElem?_eq_none (show listed.size ≤ j by omega)]
      rw [hL] at hR
      have := he p w' hR
      rw [hA p, ← putsF_congr (v := v) (dstsI l) a (fun k hk => hv k (hLt k (by have := ((hmem k).1 hk).1; omega)))] at this
      exact this
    intro f
    induction f with
    | zero =>
      intro listed v p w' hcl hsz hv hR hc
      have hall := cnt_zero hc
      refine ⟨?_, hdone listed v p w' hsz hall hv hR⟩
      apply List.eq_nil_iff_forall_not_mem.2
      intro j hj
      obtain ⟨hun, o, ho, _⟩ := mem_ready.1 hj
      have hjn : j < n := by have := (Array.getElem?_eq_some_iff.1 ho).1; omega
      rw [hall j hjn] at hun; cases hun
    | succ f ih =>
      intro listed v p w' hcl hsz hv hR hc
      refine ⟨fun hr => hdone listed v p w' hsz (fun i hi => all_listed htopo (by omega) hr i (by omega)) hv hR, fun i hi => ?_⟩
      have hi' := hi
      obtain ⟨hun, o, ho, hafter⟩ := mem_ready.1 hi
      have hin : i < n := by have := (Array.getElem?_eq_some_iff.1 ho).1; omega
      have ho' : l[i]? = some o := by simpa using ho
      obtain ⟨o2, ho2, hst⟩ := hs' i (List.mem_range.2 hin)
      obtain rfl : o = o2 := Option.some.inj (ho'.symm.trans ho2)
      have hunf : listed.getD i false = false := by
        have h2 : i < listed.size := by omega
        simp [h2] at hun ⊢; exact hun
      have hdeps : ∀ j, ((masks l []).getD i 0).testBit j = true → listed.getD j false = true := fun j hb =>
        masks_bit hcl i j hb fun o' ho'' d hd hbd => hafter d (by rw [ho'] at ho''; cases ho''; exact hd) hbd
      have hnot : ∀ j, ((masks l []).getD j 0).testBit i = true → listed.getD j false = false := fun j hb => by
        cases hl : listed.getD j false with
        | false => rfl
        | true =>
          have := masks_bit hcl j i hb fun o' ho'' d hd hbd => hcl j o' (by simpa using ho'') hl d hd hbd
          rw [hunf] at this; cases this
      have hsame := putsF_same (l := l) (v := v) (v' := fun j => (vs.getD j vI) p) (o := o) (fun cs b => hsel' i o cs b ho) (dstsI l) a hap fun k hk => by
        by_cases hlk : listed.getD k false = true
        · exact .inl (hv k hlk)
        · refine .inr fun d hd hin' => hlk (hdeps k ?_)
          unfold looksB at hlook
          simp only [List.all_eq_true, List.mem_range] at hlook
          have h3 := hlook i (by omega)
          rw [ho'] at h3
          simp only [List.all_eq_true, List.mem_range] at h3
          have h4 := h3 k ((hmem k).1 hk).1
          rw [hd] at h4
          simp only [Bool.or_eq_true, Bool.not_eq_true'] at h4
          rcases h4 with h4 | h4
          · have : (o.looksAt l.toArray).contains d = true := List.contains_iff_mem.2 hin'
            rw [h4] at this; cases this
          · exact h4
      rw [← hA p] at hsame
      have hdst : dstAt l i = o.dst := by unfold dstAt; rw [ho']; rfl
      have hgo : ∀ (q : Nat) (u : Value) (w2 : World), (fr.contains i = false → q = p i) → u = (vs.getD i vI) (upN p i q) → R (upN p i q) (upL (fun j => listed.getD j false) i) w2 →
          wpAny P .any l.toArray Q f (listed.setIfInBounds i true) ((putsF l v (dstsI l) a).put o.dst u) w2 := by
        intro q u w2 hq hu hR2
        have hput : (putsF l v (dstsI l) a).put o.dst u = putsF l (updF v i u) (dstsI l) a := by
          rw [← hdst]
          by_cases hd : (dstAt l i).isSome = true
          · exact putsF_upd (dstsI l) a hap ((hmem i).2 ⟨by omega, hd⟩)
          · have hnone : dstAt l i = none := by cases h : dstAt l i with | none => rfl | some d => rw [h] at hd; exact absurd rfl hd
            rw [hnone]
            show putsF l v (dstsI l) a = _
            refine putsF_congr _ _ fun k hk => ?_
            unfold updF
            rw [if_neg]
            rintro rfl
            exact hd ((hmem k).1 hk).2
        rw [hput]
        have hLs : ∀ k, (listed.setIfInBounds i true).getD k false = upL (fun j => listed.getD j false) i k := fun k => by
          rw [upL_eq]
          by_cases hk : k = i
          · subst hk
            have h2 : k < listed.size := by omega
            simp [h2]
          · rw [if_neg hk, getD_set_ne false (Ne.symm hk)]
        refine ih (listed.setIfInBounds i true) (updF v i u) (upN p i q) w2 (hcl.set hi') (by simpa using hsz) (fun k hk => ?_) ?_ ?_
        · unfold updF
          by_cases hki : k = i
          · subst hki; rw [if_pos rfl, hu]
          · rw [if_neg hki]
            have hlk : listed.getD k false = true := by rw [getD_set_ne false (Ne.symm hki)] at hk; exact hk
            rw [hv k hlk]
            by_cases hfr : fr.contains i = true
            · have hkn : k < n := by
                rcases Nat.lt_or_ge k n with hx | hx
                · exact hx
                · simp [Array.getElem?_eq_none (show listed.size ≤ k by omega)] at hlk
              rcases hV i (by simpa using hfr) p q k hkn with (h | h) | h
              · exact absurd h hki
              · have := masks_bit hcl k i h fun o' ho'' d hd hbd => hcl k o' (by simpa using ho'') hlk d hd hbd
                rw [hunf] at this; cases this
              · exact h.symm
            · have : q = p i := hq (by cases hx : fr.contains i with | false => rfl | true => exact absurd hx hfr)
              rw [this, upN_self]
        · have : (fun j => (listed.setIfInBounds i true).getD j false) = upL (fun j => listed.getD j false) i := funext hLs
          rw [this]; exact hR2
        · have := cnt_set hin hun; omega
      refine wpOp_noQ ?_
      unfold Go.wpOp
      simp only [ho]
      rcases hst p (fun j => listed.getD j false) w' hR hunf hdeps hnot with ⟨hw, hstep⟩ | ⟨hw, hu, hR2⟩
      · rw [hsame.2, if_pos hw]
        exact .inl (StepR.oper (K := wpAny P .any l.toArray Q f (listed.setIfInBounds i true)) hsame.1 hstep (fun u w2 ⟨q, hq, hu, hR2⟩ => hgo q u w2 hq hu hR2))
      · rw [hsame.2, if_neg (by rw [hw]; decide)]
        exact hgo (p i) undef w' (fun _ => rfl) (by rw [upN_self]; exact hu.symm) (by rw [upN_self]; exact hR2)
  have hcnt : cnt (Array.replicate n false) n = n := by
    unfold cnt
    rw [List.countP_eq_length.2 (fun i hi => ?_), List.length_range]
    have : i < n := List.mem_range.1 hi
    simp [this]
  rw [hv0]
  refine main n (Array.replicate n false) v0 (fun _ => 0) w.drew (fun j oj _ hl => ?_) (by simp) (fun k hk => ?_) ?_ hcnt
  · rw [getD_replicate_false] at hl; cases hl
  · rw [getD_replicate_false] at hk; cases hk
  · have : (fun j => (Array.replicate n false).getD j false) = fun _ => false := by funext j; rw [getD_replicate_false]
    rw [this]; exact h0 _
def prefM (n : Nat) : List Nat := (List.range n).map fun i => 2 ^ i - 1
theorem prefM_bit {n i j : Nat} (h : ((prefM n).getD i 0).testBit j = true) : i < n ∧ j < i := by
  unfold prefM at h
  rcases Nat.lt_or_ge i n with hi | hi
  · rw [List.getD, List.getElem?_map, List.getElem?_range hi] at h
    simp only [Option.map_some, Option.getD_some, Nat.testBit_two_pow_sub_one, decide_eq_true_eq] at h
    exact ⟨hi, h⟩
  · rw [List.getD, List.getElem?_map, List.getElem?_eq_none (by simp [hi])] at h
    simp at h
def checkQ (l : List Oper) (M : List Nat) : Bool := Region.noSelect l.toArray && apartB l (dstsI l) && (prefM l.length == M) && looksB l M
theorem wp_region_Q {id : Nat} {a : Act} {w : World} {l : List Oper} (n : Nat) (M : List Nat) (fr : List Nat) (vs : List ((Nat → Nat) → Value)) (R : (Nat → Nat) → (Nat → Bool) → World → Prop) (A : (Nat → Nat) → Act) (ds : List (Nat × Nat)) (idx : List Nat)
    (hn : l.length = n) (hB : checkQ l M = true)
    (hds : (slotsB l ds && (ds.map (·.1) == dstsI l) && (idx == List.range n)) = true)
    (hA : ∀ p, A p = putsD (fun j => (vs.getD j vI) p) ds a)
    (hV0 : ∀ p q, AllI (fun i => AllI (fun j => (Nat.beq j i || (M.getD j 0).testBit i) = true ∨ (vs.getD j vI) (upN p i q) = (vs.getD j vI) p) idx) fr)
    (h0 : ∀ p, R p (fun _ => false) w)
    (hmore : ∀ p L w1 w2, R p L w1 → More w1 w2 → R p L w2)
    (hs : (∀ p L w1 w2, R p L w1 → More w1 w2 → R p L w2) → AllI (StepI P l M vs R A fr) idx)
    (he : ∀ p w1, R p (fun j => decide (j < n)) w1 → wpList P l.toArray Q [] (A p) w1) : (Code.region id l.toArray false).wp P Q a w := by
  simp only [Bool.and_eq_true, beq_iff_eq] at hds
  obtain ⟨⟨hds1, hds2⟩, rfl⟩ := hds
  have hA : ∀ p, A p = putsF l (fun j => (vs.getD j vI) p) (dstsI l) a := fun p => by rw [hA p, ← hds2, putsF_D ds a hds1]
  have hV : ∀ i ∈ fr, ∀ p q j, j < n → (j = i ∨ (M.getD j 0).testBit i = true) ∨ (vs.getD j vI) (upN p i q) = (vs.getD j vI) p := fun i hi p q j hj => by
    have := AllI_get _ (AllI_get _ (hV0 p q) i hi) j (List.mem_range.2 hj)
    refine this.imp (fun h => ?_) (fun h => h)
    rcases Bool.or_eq_true_iff.1 h with h | h
    · exact .inl (Nat.eq_of_beq_eq_true h)
    · exact .inr h
  simp only [checkQ, Bool.and_eq_true, beq_iff_eq] at hB
  obtain ⟨⟨⟨hsel, hap⟩, hM⟩, hlook⟩ := hB
  subst hM
  have hsel' := Region.noSelect_spec hsel
  have hs' := AllI_get _ (hs hmore)
  have hsize : l.toArray.size = n := by simpa using hn
  refine wp_region ?_
  rw [hsize]
  obtain ⟨v0, hv0⟩ := putsF_ex l (dstsI l) a hap
  have hmem : ∀ k, k ∈ dstsI l ↔ k < l.length ∧ (dstAt l k).isSome = true := fun k => by simp [dstsI]
  have main : ∀ (r i : Nat) (v : Nat → Value) (p : Nat → Nat) (w' : World), i + r = n → (∀ k, k < i → v k = (vs.getD k vI) p) → R p (fun j => decide (j < i)) w' →
      wpOps P l.toArray Q (List.range' i r) (putsF l v (dstsI l) a) w' := by
    intro r
    induction r with
    | zero =>
      intro i v p w' hir hv hR
      obtain rfl : i = n := by omega
      have := he p w' hR
      rw [hA p, ← putsF_congr (v := v) (dstsI l) a (fun k hk => hv k (by have := ((hmem k).1 hk).1; omega))] at this
      exact this
    | succ r ih =>
      intro i v p w' hir hv hR
      have hin : i < n := by omega
      rw [List.range'_succ, wpOps_cons]
      obtain ⟨o, ho', hst⟩ := hs' i (List.mem_range.2 hin)
      have ho : l.toArray[i]? = some o := by simpa using ho'
      have hlen : (prefM l.length) = prefM n := by rw [hn]
      have hsame := putsF_same (l := l) (v := v) (v' := fun j => (vs.getD j vI) p) (o := o) (fun cs b => hsel' i o cs b ho) (dstsI l) a hap fun k hk => by
        by_cases hlk : k < i
        · exact .inl (hv k hlk)
        · refine .inr fun d hd hin' => hlk ?_
          unfold looksB at hlook
          simp only [List.all_eq_true, List.mem_range] at hlook
          have h3 := hlook i (by omega)
          rw [ho'] at h3
          simp only [List.all_eq_true, List.mem_range] at h3
          have h4 := h3 k ((hmem k).1 hk).1
          rw [hd] at h4
          simp only [Bool.or_eq_true, Bool.not_eq_true'] at h4
          rcases h4 with h4 | h4
          · have : (o.looksAt l.toArray).contains d = true := List.contains_iff_mem.2 hin'
            rw [h4] at this; cases this
          · exact (prefM_bit h4).2
      rw [← hA p] at hsame
      have hdst : dstAt l i = o.dst := by unfold dstAt; rw [ho']; rfl
      have hgo : ∀ (q : Nat) (u : Value) (w2 : World), (fr.contains i = false → q = p i) → u = (vs.getD i vI) (upN p i q) → R (upN p i q) (upL (fun j => decide (j < i)) i) w2 →
          wpOps P l.toArray Q (List.range' (i + 1) r) ((putsF l v (dstsI l) a).put o.dst u) w2 := by
        intro q u w2 hq hu hR2
        have hput : (putsF l v (dstsI l) a).put o.dst u = putsF l (updF v i u) (dstsI l) a := by
          rw [← hdst]
          by_cases hd : (dstAt l i).isSome = true
          · exact putsF_upd (dstsI l) a hap ((hmem i).2 ⟨by omega, hd⟩)
          · have hnone : dstAt l i = none := by cases h : dstAt l i with | none => rfl | some d => rw [h] at hd; exact absurd rfl hd
            rw [hnone]
            show putsF l v (dstsI l) a = _
            refine putsF_congr _ _ fun k hk => ?_
            unfold updF
            rw [if_neg]
            rintro rfl
            exact hd ((hmem k).1 hk).2
        rw [hput]
        refine ih (i + 1) (updF v i u) (upN p i q) w2 (by omega) (fun k hk => ?_) ?_
        · unfold updF
          by_cases hki : k = i
          · subst hki; rw [if_pos rfl, hu]
          · rw [if_neg hki, hv k (by omega)]
            by_cases hfr : fr.contains i = true
            · rcases hV i (by simpa using hfr) p q k (by omega) with (h | h) | h
              · exact absurd h hki
              · have := (prefM_bit h).2; omega
              · exact h.symm
            · have : q = p i := hq (by cases hx : fr.contains i with | false => rfl | true => exact absurd hx hfr)
              rw [this, upN_self]
        · have : upL (fun j => decide (j < i)) i = fun j => decide (j < i + 1) := by
            funext j
            rw [upL_eq]
            by_cases hj : j = i
            · simp [hj]
            · rw [if_neg hj]
              have : (j < i) = (j < i + 1) := by apply propext; omega
              simp [this]
          rw [this] at hR2; exact hR2
      refine wpOp_noQ ?_
      unfold Go.wpOp
      simp only [ho]
      rcases hst p (fun j => decide (j < i)) w' hR (by simp) (fun j hb => decide_eq_true (prefM_bit hb).2) (fun j hb => decide_eq_false (by have := (prefM_bit hb).2; omega)) with ⟨hw, hstep⟩ | ⟨hw, hu, hR2⟩
      · rw [hsame.2, if_pos hw]
        exact .inl (StepR.oper (K := wpOps P l.toArray Q (List.range' (i + 1) r)) hsame.1 hstep (fun u w2 ⟨q, hq, hu, hR2⟩ => hgo q u w2 hq hu hR2))
      · rw [hsame.2, if_neg (by rw [hw]; decide)]
        exact hgo (p i) undef w' (fun _ => rfl) (by rw [upN_self]; exact hu.symm) (by rw [upN_self]; exact hR2)
  rw [List.range_eq_range', hv0]
  refine main n 0 v0 (fun _ => 0) w (by omega) (fun k hk => by omega) ?_
  have : (fun j => decide (j < 0)) = fun _ => false := by funext j; simp
  rw [this]; exact h0 _
/-! ### The steps -/
variable {l : List Oper} {M : List Nat} {vs : List ((Nat → Nat) → Value)} {R : (Nat → Nat) → (Nat → Bool) → World → Prop} {A : (Nat → Nat) → Act} {fr : List Nat} {o : Oper}
abbrev KnowI (M : List Nat) (R : (Nat → Nat) → (Nat → Bool) → World → Prop) (i : Nat) (L : Nat → Bool) : Prop := L i = false ∧ (∀ j, (M.getD i 0).testBit j = true → L j = true) ∧ (∀ j, (M.getD j 0).testBit i = true → L j = false)
theorem stepI_gen (i : Nat) (ho : l[i]? = some o) (hw : ∀ p, Region.wanted o (yielded l.toArray (A p).tmps) = true)
    (h : ∀ p L w1, R p L w1 → KnowI M R i L → StepR P (fun u w2 => ∃ q, (fr.contains i = false → q = p i) ∧ u = (vs.getD i vI) (upN p i q) ∧ R (upN p i q) (upL L i) w2) ((execOp (A p).eval o).run P w1)) : StepI P l M vs R A fr i :=
  ⟨o, ho, fun p L w1 hR h1 h2 h3 => .inl ⟨hw p, h p L w1 hR ⟨h1, h2, h3⟩⟩⟩
theorem stepI_val (i : Nat) (ho : l[i]? = some o) (hw : ∀ p, Region.wanted o (yielded l.toArray (A p).tmps) = true)
    (h : ∀ p L w1, R p L w1 → KnowI M R i L → ValR ((vs.getD i vI) p) w1 ((execOp (A p).eval o).run P w1)) (hR : ∀ p L w1, R p L w1 → R p (upL L i) w1) : StepI P l M vs R A fr i :=
  stepI_gen i ho hw fun p L w1 hr hk => by
    rw [(h p L w1 hr hk).eq]
    exact ⟨p i, fun _ => rfl, by rw [upN_self], by rw [upN_self]; exact hR _ _ _ hr⟩
theorem stepI_det (i : Nat) (ho : l[i]? = some o) (hw : ∀ p, Region.wanted o (yielded l.toArray (A p).tmps) = true)
    (h : ∀ p L w1, R p L w1 → KnowI M R i L → DetR P (More w1) ((vs.getD i vI) p) ((execOp (A p).eval o).run P w1)) (hR : ∀ p L w1 w2, R p L w1 → More w1 w2 → R p (upL L i) w2) : StepI P l M vs R A fr i :=
  stepI_gen i ho hw fun p L w1 hr hk => by
    have h1 := h p L w1 hr hk
    generalize (execOp (A p).eval o).run P w1 = r at *
    cases r with
    | ok n w' =>
      cases n <;> simp only [DetR] at h1 <;> simp only [StepR]
      case value u => exact ⟨p i, fun _ => rfl, by rw [upN_self]; exact h1.1, by rw [upN_self]; exact hR _ _ _ _ hr h1.2⟩
      case skip => exact ⟨p i, fun _ => rfl, by rw [upN_self]; exact h1.1.symm, by rw [upN_self]; exact hR _ _ _ _ hr h1.2⟩
      case enter f args => exact h1.mono fun e w'' ⟨he, hs⟩ => ⟨_, he, p i, fun _ => rfl, by rw [upN_self], by rw [upN_self]; exact hR _ _ _ _ hr hs⟩
    | halt x w' => exact h1.elim
theorem stepV (i : Nat) {r : List Nat} (ho : l[i]? = some o) (hg : o.guard = none) (hR : ∀ p L w1, R p L w1 → R p (upL L i) w1)
    (h : ∀ p L w1, R p L w1 → KnowI M R i L → ValR ((vs.getD i vI) p) w1 ((execOp (A p).eval o).run P w1)) (k : AllI (StepI P l M vs R A fr) r) : AllI (StepI P l M vs R A fr) (i :: r) :=
  ⟨stepI_val i ho (fun p => by simp [Region.wanted, hg]) h hR, k⟩
theorem stepVg (i : Nat) {r : List Nat} (ho : l[i]? = some o) (hw : ∀ p, Region.wanted o (yielded l.toArray (A p).tmps) = true) (hR : ∀ p L w1, R p L w1 → R p (upL L i) w1)
    (h : ∀ p L w1, R p L w1 → KnowI M R i L → ValR ((vs.getD i vI) p) w1 ((execOp (A p).eval o).run P w1)) (k : AllI (StepI P l M vs R A fr) r) : AllI (StepI P l M vs R A fr) (i :: r) :=
  ⟨stepI_val i ho hw h hR, k⟩
theorem stepD (i : Nat) {r : List Nat} (ho : l[i]? = some o) (hw : ∀ p, Region.wanted o (yielded l.toArray (A p).tmps) = true) (hR : ∀ p L w1, R p L w1 → R p (upL L i) w1) (hm : ∀ p L w1 w2, R p L w1 → More w1 w2 → R p L w2)
    (h : ∀ p L w1, R p L w1 → KnowI M R i L → DetR P (More w1) ((vs.getD i vI) p) ((execOp (A p).eval o).run P w1)) (k : AllI (StepI P l M vs R A fr) r) : AllI (StepI P l M vs R A fr) (i :: r) :=
  ⟨stepI_det i ho hw h (fun p L w1 w2 h1 h2 => hR _ _ _ (hm _ _ _ _ h1 h2)), k⟩
theorem stepI_off (i : Nat) (ho : l[i]? = some o) (hw : ∀ p, Region.wanted o (yielded l.toArray (A p).tmps) = false) (hv : ∀ p, (vs.getD i vI) p = undef) (hR : ∀ p L w1, R p L w1 → R p (upL L i) w1) : StepI P l M vs R A fr i :=
  ⟨o, ho, fun p L w1 hr _ _ _ => .inr ⟨hw p, hv p, hR _ _ _ hr⟩⟩
theorem stepI_alloc (i : Nat) (ho : l[i]? = some o) (hw : ∀ p, Region.wanted o (yielded l.toArray (A p).tmps) = true) (hfr : fr.contains i = true) (c : Array Value) (t : TypeId)
    (hv : ∀ p, (vs.getD i vI) p = .pointer (some ⟨p i, 0, none⟩))
    (h : ∀ p w1, (execOp (A p).eval o).run P w1 = .ok (.value (.pointer (some ⟨w1.heap.size, 0, none⟩))) (w1.alloc (.cells c t)))
    (hR : ∀ p L w1, R p L w1 → KnowI M R i L → R (upN p i w1.heap.size) (upL L i) (w1.alloc (.cells c t))) : StepI P l M vs R A fr i :=
  stepI_gen i ho hw fun p L w1 hr hk => by
    rw [h p w1]
    exact ⟨w1.heap.size, fun h => (by rw [hfr] at h; cases h), by rw [hv, upN_same], hR _ _ _ hr hk⟩
theorem stepI_fresh (i : Nat) (ho : l[i]? = some o) (hw : ∀ p, Region.wanted o (yielded l.toArray (A p).tmps) = true) (hfr : fr.contains i = true) (mk : Nat → Value) (c : (Nat → Nat) → Array Value) (t : TypeId)
    (hv : ∀ p, (vs.getD i vI) p = mk (p i))
    (h : ∀ p w1, (execOp (A p).eval o).run P w1 = .ok (.value (mk w1.heap.size)) (w1.alloc (.cells (c p) t)))
    (hR : ∀ p L w1, R p L w1 → KnowI M R i L → R (upN p i w1.heap.size) (upL L i) (w1.alloc (.cells (c p) t))) : StepI P l M vs R A fr i :=
  stepI_gen i ho hw fun p L w1 hr hk => by
    rw [h p w1]
    exact ⟨w1.heap.size, fun h => (by rw [hfr] at h; cases h), by rw [hv, upN_same], hR _ _ _ hr hk⟩
theorem stepI_new (i : Nat) (ho : l[i]? = some o) (hw : ∀ p, Region.wanted o (yielded l.toArray (A p).tmps) = true) (hfr : fr.contains i = true) (mk : Nat → Value) (c : Array Value) (t : TypeId)
    (hv : ∀ p, (vs.getD i vI) p = mk (p i))
    (h : ∀ p L w1, R p L w1 → KnowI M R i L → StepR P (fun u w2 => ∃ b, u = mk b ∧ blk w2 b c t ∧ w1.heap.size ≤ b ∧ More w1 w2) ((execOp (A p).eval o).run P w1))
    (hR : ∀ p L w1 w2 b, R p L w1 → KnowI M R i L → blk w2 b c t → w1.heap.size ≤ b → More w1 w2 → R (upN p i b) (upL L i) w2) : StepI P l M vs R A fr i :=
  stepI_gen i ho hw fun p L w1 hr hk => (h p L w1 hr hk).imp fun u w2 ⟨b, hu, hb, hle, hm⟩ =>
    ⟨b, fun h => (by rw [hfr] at h; cases h), by rw [hv, upN_same]; exact hu, hR _ _ _ _ _ hr hk hb hle hm⟩
theorem stepI_mut (i : Nat) (ho : l[i]? = some o) (hw : ∀ p, Region.wanted o (yielded l.toArray (A p).tmps) = true) (g : (Nat → Nat) → Nat) (c' : (Nat → Nat) → Array Value)
    (h : ∀ p L w1, R p L w1 → KnowI M R i L → DetR P (fun w2 => Below w1.heap.size (w1.setRow (g p) (c' p)) w2) ((vs.getD i vI) p) ((execOp (A p).eval o).run P w1))
    (hR : ∀ p L w1 w2, R p L w1 → KnowI M R i L → Below w1.heap.size (w1.setRow (g p) (c' p)) w2 → R p (upL L i) w2) : StepI P l M vs R A fr i :=
  stepI_gen i ho hw fun p L w1 hr hk => by
    have h1 := h p L w1 hr hk
    generalize (execOp (A p).eval o).run P w1 = r at *
    cases r with
    | ok n w' =>
      cases n <;> simp only [DetR] at h1 <;> simp only [StepR]
      case value u => exact ⟨p i, fun _ => rfl, by rw [upN_self]; exact h1.1, by rw [upN_self]; exact hR _ _ _ _ hr hk h1.2⟩
      case skip => exact ⟨p i, fun _ => rfl, by rw [upN_self]; exact h1.1.symm, by rw [upN_self]; exact hR _ _ _ _ hr hk h1.2⟩
      case enter f args => exact h1.mono fun e w'' ⟨he, hs⟩ => ⟨_, he, p i, fun _ => rfl, by rw [upN_self], by rw [upN_self]; exact hR _ _ _ _ hr hk hs⟩
    | halt x w' => exact h1.elim
theorem stepI_cell (i : Nat) (ho : l[i]? = some o) (hw : ∀ p, Region.wanted o (yielded l.toArray (A p).tmps) = true) (hv : ∀ p, (vs.getD i vI) p = undef)
    (g : (Nat → Nat) → Nat) (off : Nat) (v : (Nat → Nat) → Value) (c c' : (Nat → Nat) → Array Value) (t : TypeId) (hc : ∀ p, (c p).setIfInBounds off (v p) = c' p)
    (hg : ∀ p L w1, R p L w1 → KnowI M R i L → blk w1 (g p) (c p) t)
    (h : ∀ p w1, blk w1 (g p) (c p) t → ∃ n, (execOp (A p).eval o).run P w1 = .ok n (w1.setCell ⟨g p, off, none⟩ (v p)) ∧ (n = .value undef ∨ n = .skip))
    (hR : ∀ p L w1, R p L w1 → KnowI M R i L → R p (upL L i) (w1.setRow (g p) (c' p))) : StepI P l M vs R A fr i :=
  stepI_gen i ho hw fun p L w1 hr hk => by
    have hb := hg p L w1 hr hk
    obtain ⟨n, hn, hs⟩ := h p w1 hb
    rw [hn]
    have := hR p L w1 hr hk
    rw [← hc p, ← setCell_eq_setRow w1 (g p) off (c p) t _ (v p) hb] at this
    rcases hs with rfl | rfl <;> exact ⟨p i, fun _ => rfl, by rw [upN_self, hv], by rw [upN_self]; exact this⟩
theorem stepI_store (i : Nat) (ho : l[i]? = some o) (hw : ∀ p, Region.wanted o (yielded l.toArray (A p).tmps) = true) (hv : ∀ p, (vs.getD i vI) p = undef)
    (ty : TypeId) (x y : Operand) (hop : o.op = .store ty x y) (g : (Nat → Nat) → Nat) (off : Nat) (hx : ∀ p, (A p).eval x = .pointer (some ⟨g p, off, none⟩)) (cs : (Nat → Nat) → Array Value) (hy : ∀ p, (A p).eval y = .agg (cs p))
    (c c' : (Nat → Nat) → Array Value) (t : TypeId) (hc : ∀ p, over (c p) off (cs p).toList = c' p) (hn : ∀ p, off + (cs p).size ≤ (c p).size) (hi : ∀ p, (P.info? ty).map (·.size) = some (cs p).size) (h1 : ∀ p, (cs p).all (·.oneCell') = true)
    (hg : ∀ p L w1, R p L w1 → KnowI M R i L → blk w1 (g p) (c p) t) (hR : ∀ p L w1, R p L w1 → KnowI M R i L → R p (upL L i) (w1.setRow (g p) (c' p))) : StepI P l M vs R A fr i :=
  stepI_gen i ho hw fun p L w1 hr hk => by
    unfold execOp
    simp only [hop, hx, hy, run_storeAt_mid w1 (g p) off ty (cs p) ((hg p L w1 hr hk).there (hn p)) (hi p) (h1 p), Sem.run_bind, Sem.run_pure, Result.andThen_ok]
    refine ⟨p i, fun _ => rfl, by rw [upN_self, hv], ?_⟩
    rw [upN_self, setCells_row _ _ _ _ (hg p L w1 hr hk), hc]
    exact hR _ _ _ hr hk
end
theorem over_get : ∀ (l : List Value) (c : Array Value) (o i : Nat), o + l.length ≤ c.size → (over c o l)[i]? = if o ≤ i ∧ i < o + l.length then l[i - o]? else c[i]?
  | [], c, o, i, h => by
    rw [over]
    have : ¬ (o ≤ i ∧ i < o + ([] : List Value).length) := by simp <;> omega
    rw [if_neg this]
  | v :: l, c, o, i, h => by
    simp only [List.length_cons] at h
    rw [over, over_get l _ (o + 1) i (by simp; omega)]
    simp only [List.length_cons]
    by_cases h1 : o + 1 ≤ i ∧ i < o + 1 + l.length
    · rw [if_pos h1, if_pos (by omega), show i - o = (i - (o + 1)) + 1 by omega, List.getElem?_cons_succ]
    · rw [if_neg h1]
      by_cases h2 : i = o
      · subst h2
        rw [if_pos (by omega), Nat.sub_self, List.getElem?_cons_zero, Array.getElem?_setIfInBounds, if_pos rfl, if_pos (by omega)]
      · rw [if_neg (by omega), Array.getElem?_setIfInBounds, if_neg (by omega)]
theorem over_full {c d : Array Value} (h : d.size = c.size) : over c 0 d.toList = d := by
  apply Array.ext_getElem?
  intro i
  rw [over_get d.toList c 0 i (by simp [h])]
  by_cases hi : i < d.size
  · rw [if_pos (by simp; omega), Nat.sub_zero, Array.getElem?_toList]
  · rw [if_neg (by simp; omega), Array.getElem?_eq_none (by omega), Array.getElem?_eq_none (by omega)]
end Go.Proofs.Ytkmelddejdikgaa
namespace Go.Proofs.Ytkmelddejdikgaa
open Go.RowKit PM Dt
structure Save (lo hi : Nat) (a w : World) : Prop where
  os : w.os = a.os
  tape : w.tape = a.tape
  output : w.output = a.output
  size : a.heap.size ≤ w.heap.size
  block : ∀ k, k < a.heap.size → (k < lo ∨ hi < k) → w.heap[k]? = a.heap[k]?
variable {lo hi : Nat} {a b c : World}
theorem Save.of (h : Below a.heap.size a b) : Save lo hi a b := ⟨h.os, h.tape, h.output, h.size, fun k hk _ => h.block k hk⟩
theorem Save.refl (lo hi : Nat) (a : World) : Save lo hi a a := Save.of (Below.refl _ _)
theorem Save.trans (h : Save lo hi a b) (k : Below a.heap.size b c) : Save lo hi a c :=
  ⟨k.os.trans h.os, k.tape.trans h.tape, k.output.trans h.output, Nat.le_trans h.size k.size, fun j hj ho => (k.block j hj).trans (h.block j hj ho)⟩
theorem Save.next (h : Save lo hi a b) (k : Save lo hi b c) : Save lo hi a c :=
  ⟨k.os.trans h.os, k.tape.trans h.tape, k.output.trans h.output, Nat.le_trans h.size k.size, fun j hj ho => (k.block j (Nat.lt_of_lt_of_le hj h.size) ho).trans (h.block j hj ho)⟩
theorem Save.alloc (h : Save lo hi a b) (hs : a.heap.size ≤ b.heap.size) (o : Obj) : Save lo hi a (b.alloc o) := h.trans ((Below.refl _ _).alloc hs o)
theorem Save.drew (h : Save lo hi a b) : Save lo hi a b.drew := ⟨h.os, h.tape, h.output, h.size, h.block⟩
theorem Save.row (h : Save lo hi a b) {g : Nat} (hg : (lo ≤ g ∧ g ≤ hi) ∨ a.heap.size ≤ g) (x : Array Value) : Save lo hi a (b.setRow g x) :=
  ⟨h.os, h.tape, h.output, by simpa using h.size, fun k hk ho => by rw [setRow_other _ _ _ _ (by omega)]; exact h.block k hk ho⟩
theorem Save.below (h : Save lo hi a b) {n : Nat} (hn : n ≤ a.heap.size) (hl : n ≤ lo) : Below n a b := ⟨h.os, h.tape, h.output, h.size, fun k hk => h.block k (by omega) (by omega)⟩
theorem blk.save {x : Nat} {cs : Array Value} {t : TypeId} (h : blk a x cs t) (hs : Save lo hi a b) (ho : x < lo ∨ hi < x) : blk b x cs t := by
  unfold blk at h ⊢
  rw [hs.block x (blk.lt h) ho]; exact h
end Go.Proofs.Ytkmelddejdikgaa
namespace Go.Proofs.Ytkmelddejdikgaa
open Go.RowKit PM Dt
def frW (h : Int) : Int := h.tdiv 1024
def stpX (h c : Int) : Int := clampV (h - frW h + clampV c (-1048576) 1048576) (-16777216) 16777216
def stpF (h : Nat → Int) (f : Int) (c : Nat → Int) : Nat → Int := fun i => if (i : Int) = f then h i else stpX (h i) (c i)
def setF (h : Nat → Int) (j : Nat) : Nat → Int := fun i => if i = j then 0 else h i
def isW (f : Int) : Bool := decide (-1 ≤ f) && decide (f ≤ 3)
def whB (h : Nat → Int) (f : Int) (i : Nat) : Bool := decide (-16777216 ≤ h i) && (decide (h i ≤ 16777216) && !(decide ((i : Int) = f) && !decide (h i = 0)))
def newB (h : Nat → Int) (f : Int) : Bool := isW f && (whB h f 0 && (whB h f 1 && (whB h f 2 && whB h f 3)))
def sumW (h : Nat → Int) : Nat → Int := fun i => h i + h 3
structure SI (h : Nat → Int) (f : Int) : Prop where
  b : ∀ i, i < 4 → -16777216 ≤ h i ∧ h i ≤ 16777216
  l : -1 ≤ f
  u : f ≤ 3
theorem whB_bd {h : Nat → Int} {f : Int} {i : Nat} (k : whB h f i = true) : -16777216 ≤ h i ∧ h i ≤ 16777216 ∧ ((i : Int) = f → h i = 0) := by
  simp only [whB, Bool.and_eq_true, decide_eq_true_eq, Bool.not_eq_true', Bool.and_eq_false_imp, Bool.not_eq_false'] at k
  exact ⟨k.1, k.2.1, fun e => by simpa using k.2.2 e⟩
theorem newB_SI {h : Nat → Int} {f : Int} (k : newB h f = true) : SI h f ∧ ∀ i : Nat, i < 4 → (i : Int) = f → h i = 0 := by
  simp only [newB, isW, Bool.and_eq_true, decide_eq_true_eq] at k
  obtain ⟨⟨k1, k2⟩, a, b, c, d⟩ := k
  have A := whB_bd a; have B := whB_bd b; have C := whB_bd c; have D := whB_bd d
  refine ⟨⟨fun i hi => ?_, k1, k2⟩, fun i hi => ?_⟩
  · rcases (show i = 0 ∨ i = 1 ∨ i = 2 ∨ i = 3 by omega) with rfl | rfl | rfl | rfl
    all_goals first | exact ⟨A.1, A.2.1⟩ | exact ⟨B.1, B.2.1⟩ | exact ⟨C.1, C.2.1⟩ | exact ⟨D.1, D.2.1⟩
  · rcases (show i = 0 ∨ i = 1 ∨ i = 2 ∨ i = 3 by omega) with rfl | rfl | rfl | rfl
    all_goals first | exact A.2.2 | exact B.2.2 | exact C.2.2 | exact D.2.2
theorem clampW_bd (x : Int) : -16777216 ≤ clampV x (-16777216) 16777216 ∧ clampV x (-16777216) 16777216 ≤ 16777216 := by
  unfold clampV; split <;> (try split) <;> omega
theorem clampT_bd (x : Int) : -1048576 ≤ clampV x (-1048576) 1048576 ∧ clampV x (-1048576) 1048576 ≤ 1048576 := by
  unfold clampV; split <;> (try split) <;> omega
theorem frW_bd {h : Int} (hh : -16777216 ≤ h ∧ h ≤ 16777216) : -16384 ≤ frW h ∧ frW h ≤ 16384 := by
  unfold frW
  rcases Int.le_total 0 h with h0 | h0
  · rw [Int.tdiv_eq_ediv_of_nonneg h0]; omega
  · have e : h.tdiv 1024 = -((-h) / 1024) := by
      rw [← Int.tdiv_eq_ediv_of_nonneg (show 0 ≤ -h by omega), Int.neg_tdiv]; omega
    rw [e]; omega
theorem frW_neg (h : Int) : -frW (-h) = frW h := by unfold frW; rw [Int.neg_tdiv]; omega
theorem SI.step {h : Nat → Int} {f : Int} (k : SI h f) (c : Nat → Int) : SI (stpF h f c) f :=
  ⟨fun i hi => by
    unfold stpF
    split
    · exact k.b i hi
    · exact clampW_bd _, k.l, k.u⟩
theorem SI.fail {h : Nat → Int} {f : Int} (k : SI h f) {j : Nat} (hj : j < 4) : SI (setF h j) j :=
  ⟨fun i hi => by
    unfold setF
    split
    · omega
    · exact k.b i hi, by omega, by omega⟩
theorem sumW_bd {h : Nat → Int} {f : Int} (k : SI h f) {i : Nat} (hi : i < 3) : -33554432 ≤ sumW h i ∧ sumW h i ≤ 33554432 := by
  have := k.b i (by omega); have := k.b 3 (by omega)
  unfold sumW; omega
structure BSt where
  Q : Nat → Int
  T : Nat → Int
  h : Nat → Int
  f : Int
def sqV (h : Nat → Int) : Int := h 0 * h 0 + h 1 * h 1 + h 2 * h 2
def allB (h : Nat → Int) : Bool := smallB h 1048576 && decide (sqV h ≤ 1099511627776)
def momG (Q T h : Nat → Int) : Nat → Int := vsubF (qbackF Q T) (sumW h)
def momF (X : BSt) : Nat → Int := momG X.Q X.T X.h
def mulF (k : Int) (l : Nat → Int) : Nat → Int := fun i => k * l i
def attG (Q l : Nat → Int) : Nat → Int := if zV l then Q else turnF Q (mulF 2 l)
def tickH (X : BSt) (c : Nat → Int) : Nat → Int := stpF X.h X.f c
def tickL (X : BSt) (c : Nat → Int) : Nat → Int := momG X.Q X.T (tickH X c)
def tickQ (X : BSt) (c : Nat → Int) : Nat → Int := attG X.Q (tickL X c)
def tickD (X : BSt) (c t : Nat → Int) : Nat → Int := qrotF (tickQ X c) t
def tickS (X : BSt) (c t : Nat → Int) : Nat → Int := vaddF X.T (tickD X c t)
def tickX (X : BSt) (c t : Nat → Int) : BSt := if smallB t 1048576 then ⟨tickQ X c, if allB (tickS X c t) then tickS X c t else X.T, tickH X c, X.f⟩ else X
def tickC (X : BSt) (c t : Nat → Int) : Nat → Int := if smallB t 1048576 && allB (tickS X c t) then tickD X c t else fun _ => 0
def tickE (t : Nat → Int) : Int := if smallB t 1048576 then 0 else 2
def failE (f i : Int) : Int := if decide (i < 0) || decide (3 < i) then 2 else if decide (0 ≤ f) then 5 else 0
structure BI (X : BSt) : Prop where
  q : ∀ i, i < 4 → I64 (X.Q i)
  v : validQ X.Q = true
  t : allB X.T = true
  s : SI X.h X.f
theorem mom_ok (Q T h : Nat → Int) : ∀ i, i < 3 → -1099511627776 ≤ momG Q T h i ∧ momG Q T h i ≤ 1099511627776 := fun i hi => by
  unfold momG vsubF
  split
  · unfold resF
    split
    · rename_i k; exact (vb_iff _).1 ((okV_iff _).1 k i hi)
    · exact show (-1099511627776 : Int) ≤ 0 ∧ (0 : Int) ≤ 1099511627776 from ⟨by decide, by decide⟩
  · exact show (-1099511627776 : Int) ≤ 0 ∧ (0 : Int) ≤ 1099511627776 from ⟨by decide, by decide⟩
theorem mom_I (Q T h : Nat → Int) {k : Int} (hk : 0 ≤ k ∧ k ≤ 4) : ∀ i, i < 3 → I64 (mulF k (momG Q T h) i) := fun i hi => by
  have := mom_ok Q T h i hi
  unfold mulF
  obtain ⟨k0, k1⟩ := hk
  rcases (show k = 0 ∨ k = 1 ∨ k = 2 ∨ k = 3 ∨ k = 4 by omega) with rfl | rfl | rfl | rfl | rfl <;> exact ⟨by omega, by omega⟩
end Go.Proofs.Ytkmelddejdikgaa
