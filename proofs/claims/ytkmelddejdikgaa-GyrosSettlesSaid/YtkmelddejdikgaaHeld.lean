/-
  Regions that draw their order, under a condition on the world. No program in sight.
-/
import Derived.Test.YtkmelddejdikgaaGyA
import Derived.OrdersHeld
set_option linter.unusedSimpArgs false
set_option linter.unusedVariables false
namespace Go.Proofs.Ytkmelddejdikgaa
open Go.RowKit PM Dt
/-- K behind the normal end, Q elsewhere. -/
def Nh (Q : Exit → Act → World → Prop) (K : Act → World → Prop) : Exit → Act → World → Prop
  | .normal => K
  | e => Q e
theorem Nh_ok {Q : Exit → Act → World → Prop} {K : Act → World → Prop} {a : Act} {w : World} (h : K a w) : Nh Q K .normal a w := h
/-- The operation gives v and leaves the world as it is. -/
def ValR (v : Value) (w : World) : Result Next → Prop
  | .ok (.value u) w' => u = v ∧ w' = w
  | _ => False
theorem ValR.eq {v : Value} {w : World} {r : Result Next} (h : ValR v w r) : r = .ok (.value v) w := by
  cases r with
  | ok n w' => cases n <;> first | exact h.elim | (obtain ⟨rfl, rfl⟩ := h; rfl)
  | halt x w' => exact h.elim
/-- What has come up, with all that it waits for. -/
def Closed (ops : Array Oper) (listed : Array Bool) : Prop :=
  ∀ j oj, ops[j]? = some oj → listed.getD j false = true → ∀ d ∈ oj.after, Region.binds .any d = true → listed.getD d.on false = true
theorem Closed.set {ops : Array Oper} {listed : Array Bool} {i : Nat} (h : Closed ops listed) (hr : i ∈ Region.ready .any ops listed) : Closed ops (listed.setIfInBounds i true) := by
  intro j oj hj hl d hd hb
  refine getD_set_true ?_
  by_cases hij : i = j
  · subst hij
    obtain ⟨_, o, ho, hall⟩ := mem_ready.1 hr
    rw [hj] at ho; cases ho
    exact hall d hd hb
  · rw [getD_set_ne false hij] at hl
    exact h j oj hj hl d hd hb
/-- Does number e wait for number i, at whatever distance? -/
def reachB (ops : Array Oper) : Nat → Nat → Nat → Bool
  | 0, _, _ => false
  | f + 1, e, i => match ops[e]? with
    | some oe => oe.after.any fun d => Region.binds .any d && (d.on == i || reachB ops f d.on i)
    | none => false
theorem Closed.reach {ops : Array Oper} {listed : Array Bool} (h : Closed ops listed) : ∀ (f e i : Nat), (∀ oe, ops[e]? = some oe → ∀ d ∈ oe.after, Region.binds .any d = true → listed.getD d.on false = true) → reachB ops f e i = true → listed.getD i false = true
  | 0, _, _, _, hr => by simp [reachB] at hr
  | f + 1, e, i, he, hr => by
    unfold reachB at hr
    cases ho : ops[e]? with
    | none => simp [ho] at hr
    | some oe =>
      simp only [ho] at hr
      obtain ⟨k, hk, hr⟩ := Array.any_eq_true.1 hr
      simp only [Bool.and_eq_true, Bool.or_eq_true, beq_iff_eq] at hr
      obtain ⟨hb, hr⟩ := hr
      have hd := Array.getElem_mem hk
      generalize oe.after[k] = d at *
      have hl := he oe ho d hd hb
      rcases hr with rfl | hr
      · exact hl
      · exact h.reach f d.on i (fun od hod d' hd' hb' => h d.on od hod hl d' hd' hb') hr
section
variable {P : Program} {S : World → Prop} {Q : Exit → Act → World → Prop} {e : Nat}
theorem wpOp_list {ops : Array Oper} {K : Act → World → Prop} {a : Act} {w : World} {i : Nat} {o : Oper} (ho : ops[i]? = some o) (h : wpList P ops (Nh Q K) [o] a w) : wpOp P ops Q i K a w := by
  unfold Go.wpOp
  rw [ho]
  unfold wpList at h
  show if _ then _ else _
  split
  · rename_i hw
    rw [if_pos hw] at h
    rcases h with h | h
    · left
      unfold Oper.wp Oper.upon at *
      exact h
    · exact .inr h
  · rename_i hw
    rw [if_neg hw] at h
    exact h
/-- S holds as long as e has not come up. -/
def Ge (S : World → Prop) (e : Nat) (listed : Array Bool) (w : World) : Prop := listed.getD e false = false → S w
theorem Ge.set {i : Nat} {listed : Array Bool} {w : World} (hie : i ≠ e) : Ge S e (listed.setIfInBounds i true) w ↔ Ge S e listed w := by
  unfold Ge; rw [getD_set_ne false hie]
/-- Whatever order is picked, S holding till e. -/
def wpE (P : Program) (ops : Array Oper) (Q : Exit → Act → World → Prop) (S : World → Prop) (e : Nat) : Nat → Array Bool → Act → World → Prop
  | 0, listed, a, w => Region.ready .any ops listed = [] ∧ Q .normal a w
  | f + 1, listed, a, w =>
    (Region.ready .any ops listed = [] → Q .normal a w) ∧
    ∀ i ∈ Region.ready .any ops listed, wpOp P ops Q i (fun a' w' => Ge S e (listed.setIfInBounds i true) w' ∧ wpE P ops Q S e f (listed.setIfInBounds i true) a' w') a w
theorem wpAny_of_E {ops : Array Oper} : ∀ (f : Nat) (listed : Array Bool) (a : Act) (w : World), wpE P ops Q S e f listed a w → wpAny P .any ops Q f listed a w
  | 0, _, _, _, h => h
  | f + 1, _, _, _, h => ⟨h.1, fun i hi => wpOp_mono (fun a' w' h' => wpAny_of_E f _ a' w' h'.2) (h.2 i hi)⟩
theorem not_listed {i : Nat} {listed : Array Bool} (h0 : listed.getD i true = false) : listed.getD i false ≠ true := by
  intro h'
  rcases Nat.lt_or_ge i listed.size with hx | hx
  · simp [hx] at h0 h'; rw [h0] at h'; cases h'
  · simp [Array.getElem?_eq_none hx] at h'
theorem Closed.yet {ops : Array Oper} {listed : Array Bool} {i : Nat} (hc : Closed ops listed) (hsz : listed.size = ops.size) (hi : listed.getD i true = false) (hre : ops.size ≤ e ∨ ∃ f, reachB ops f e i = true) : listed.getD e false = false := by
  cases hle : listed.getD e false with
  | false => rfl
  | true =>
    rcases hre with hs | ⟨f, hf⟩
    · simp [Array.getElem?_eq_none (show listed.size ≤ e by omega)] at hle
    · exact absurd (hc.reach f e i (fun oe hoe d hd hb => hc e oe hoe hle d hd hb) hf) (not_listed hi)
theorem wpE_first {ops : Array Oper} {i : Nat} {oi : Oper} {v : Value} (hi : ops[i]? = some oi) (hsel : ∀ (j : Nat) (o : Oper) cs b, ops[j]? = some o → o.op ≠ .select cs b)
    (hQ : ∀ c a w, Q (.panic c) (a.put oi.dst v) w → Q (.panic c) a w) (hie : i ≠ e) (hre : ops.size ≤ e ∨ ∃ f, reachB ops f e i = true) :
    ∀ (fuel : Nat) (listed : Array Bool) (a : Act) (w : World), Closed ops listed → listed.size = ops.size →
      (∀ j oj, ops[j]? = some oj → j ≠ i → listed.getD j true = false → (∀ e ∈ oj.after, Region.binds .any e = true → e.on ≠ i) → oi.apart ops oj = true) →
      i ∈ Region.ready .any ops listed → YieldsIf P ops S oi v a → S w →
      wpE P ops Q S e fuel (listed.setIfInBounds i true) (a.put oi.dst v) w → wpE P ops Q S e (fuel + 1) listed a w := by
  intro fuel
  induction fuel with
  | zero =>
    intro listed a w _ _ _ hr hy hS H
    refine ⟨fun h => (by rw [h] at hr; cases hr), fun j hj => ?_⟩
    by_cases hji : j = i
    · subst hji; exact hy.wpOp hi hS ⟨fun _ => hS, H⟩
    · have := ready_mono hj hji
      rw [H.1] at this
      cases this
  | succ fuel ih =>
    intro listed a w hcl hsz hfree hr hy hS H
    refine ⟨fun h => (by rw [h] at hr; cases hr), fun j hj => ?_⟩
    by_cases hji : j = i
    · subst hji; exact hy.wpOp hi hS ⟨fun _ => hS, H⟩
    · have h1 := H.2 j (ready_mono hj hji)
      obtain ⟨hjun, oj, hoj, hall⟩ := mem_ready.1 hj
      have h0 := (mem_ready.1 hr).1
      have hnot : ∀ e ∈ oj.after, Region.binds .any e = true → e.on ≠ i := fun e he hb heq => by
        have h1 := hall e he hb
        rw [heq] at h1
        exact not_listed h0 h1
      have h2 := wpOp_putIf hoj (hfree j oj hoj hji hjun hnot) (fun cs b => hsel i oi cs b hi) (fun cs b => hsel j oj cs b hoj) hQ hy h1
      have hfree' : ∀ k ok, ops[k]? = some ok → k ≠ i → (listed.setIfInBounds j true).getD k true = false →
          (∀ e ∈ ok.after, Region.binds .any e = true → e.on ≠ i) → oi.apart ops ok = true := fun k ok hk hki hun hno => by
        refine hfree k ok hk hki ?_ hno
        by_cases hjk : j = k
        · subst hjk; exact hjun
        · rw [getD_set_ne true hjk] at hun; exact hun
      have hyet : (listed.setIfInBounds j true).getD e false = false := (hcl.set hj).yet (by simpa using hsz) (by rw [getD_set_ne true hji]; exact h0) hre
      refine wpOp_mono (fun a' w' h3 => ?_) h2
      obtain ⟨hyy, hg, hz⟩ := h3
      rw [Array.setIfInBounds_comm _ _ (Ne.symm hji)] at hg hz
      rw [Ge.set hie] at hg
      exact ⟨hg, ih (listed.setIfInBounds j true) a' w' (hcl.set hj) (by simpa using hsz) hfree' (ready_mono hr (Ne.symm hji)) hyy (hg hyet) hz⟩
/-! ### The moves -/
def wpEI (P : Program) (l : List Oper) (Q : Exit → Act → World → Prop) (S : World → Prop) (e f : Nat) (listed : Array Bool) (a : Act) (w : World) : Prop :=
  Closed l.toArray listed → listed.size = l.length → wpE P l.toArray Q S e f listed a w
def takeEB (ops : Array Oper) (e i : Nat) (listed : Array Bool) : Bool :=
  takeYB ops i listed && (decide (i ≠ e) && (decide (ops.size ≤ e) || reachB ops ops.size e i))
/-- TAKE NUMBER i FIRST: its value holds in every world that meets S, and e waits for it. -/
theorem wpE_take {l : List Oper} {f : Nat} {listed : Array Bool} {a : Act} {w : World} (i : Nat) {o : Oper} (v : Value) (ho' : l[i]? = some o) (hg : o.guard = none)
    (hB : takeEB l.toArray e i listed = true) (hQ : ∀ c a w, Q (.panic c) (a.put o.dst v) w → Q (.panic c) a w) (hS : S w)
    (h : ∀ w', S w' → ValR v w' ((execOp a.eval o).run P w'))
    (h2 : wpEI P l Q S e f (listed.setIfInBounds i true) (a.put o.dst v) w) : wpEI P l Q S e (f + 1) listed a w := by
  have ho : l.toArray[i]? = some o := by simpa using ho'
  intro hcl hsz
  simp only [takeEB, takeYB, Bool.and_eq_true, Bool.or_eq_true, decide_eq_true_eq] at hB
  obtain ⟨⟨⟨hsel, hr⟩, hf⟩, hie, hre⟩ := hB
  have hr' : i ∈ Region.ready .any l.toArray listed := by simpa using hr
  exact wpE_first ho (Region.noSelect_spec hsel) hQ hie (hre.imp id fun h => ⟨_, h⟩) f listed a w hcl (by simpa using hsz) (Region.free_spec ho hf) hr' (.inl ⟨by simp [Region.wanted, hg], fun w' hw' => (h w' hw').eq⟩) hS (h2 (hcl.set hr') (by simpa using hsz))
/-- One alone may come up now. -/
theorem wpE_one {l : List Oper} {f : Nat} {listed : Array Bool} {a : Act} {w : World} (i : Nat) {o : Oper} (ho' : l[i]? = some o) (hr : Region.ready .any l.toArray listed = [i])
    (h : wpList P l.toArray (Nh Q fun a' w' => Ge S e (listed.setIfInBounds i true) w' ∧ wpEI P l Q S e f (listed.setIfInBounds i true) a' w') [o] a w) : wpEI P l Q S e (f + 1) listed a w := by
  intro hcl hsz
  refine ⟨fun h0 => (by rw [hr] at h0; cases h0), fun j hj => ?_⟩
  have hj' := hj
  rw [hr] at hj
  obtain rfl : j = i := by simpa using hj
  exact wpOp_mono (fun a' w' h' => ⟨h'.1, h'.2 (hcl.set hj') (by simpa using hsz)⟩) (wpOp_list (by simpa using ho') h)
theorem wpE_end {l : List Oper} {listed : Array Bool} {a : Act} {w : World} (hr : Region.ready .any l.toArray listed = []) (h : wpList P l.toArray Q [] a w) : wpEI P l Q S e 0 listed a w := fun _ _ => ⟨hr, h⟩
theorem wp_region_E {id : Nat} {a : Act} {w : World} {l : List Oper} (n e : Nat) (S : World → Prop) (hn : l.length = n) (hm : P.follows .mixedOrders = true)
    (h : wpEI P l Q S e n (Array.replicate n false) a w.drew) : (Code.region id l.toArray true).wp P Q a w := by
  refine wp_region_any hm (wpAny_of_E (S := S) (e := e) _ _ _ _ ?_)
  have hs : l.toArray.size = n := by simpa using hn
  rw [hs]
  refine h (fun j oj _ hl => ?_) (by simp [hn])
  rw [getD_replicate_false] at hl; cases hl
/-- The load of a part of a block. -/
theorem valR_part {op : Oper} {a : Act} {w : World} (ty : TypeId) (x : Operand) (ho : op.op = .load ty x) (b o : Nat) (hx : a.eval x = .pointer (some ⟨b, o, none⟩))
    (c : Array Value) (t : TypeId) (hg : blk w b c t) (cs : Array Value) (hc : ∀ j, j < cs.size → c[o + j]? = cs[j]?) (d : TypeDesc)
    (hu : P.underlying ty = some d) (hd : d.isRow = true) (hi : (P.info? ty).map (·.size) = some cs.size) {v : Value} (hv : v = .agg cs) : ValR v w ((execOp a.eval op).run P w) := by
  unfold execOp
  simp only [ho, hx, Instr.loadAt, Instr.sureAddr, Sem.run_bind, Sem.run_pure, Result.andThen_ok, run_loadVar_mid w b o ty cs.toList d (hg.range hc) hu hd (by simpa using hi)]
  exact ⟨by rw [hv], rfl⟩
theorem valR_row {op : Oper} {a : Act} {w : World} (ty : TypeId) (x : Operand) (ho : op.op = .load ty x) (b : Nat) (hx : a.eval x = .pointer (some ⟨b, 0, none⟩))
    (c : Array Value) (t : TypeId) (hg : blk w b c t) (d : TypeDesc)
    (hu : P.underlying ty = some d) (hd : d.isRow = true) (hi : (P.info? ty).map (·.size) = some c.size) {v : Value} (hv : v = .agg c) : ValR v w ((execOp a.eval op).run P w) :=
  valR_part ty x ho b 0 hx c t hg c (fun j _ => by rw [Nat.zero_add]) d hu hd hi hv
end
end Go.Proofs.Ytkmelddejdikgaa
