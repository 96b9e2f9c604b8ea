/-
  Calls that turn blocks of an interval alone. No program in sight. Plans of passes: windows, points, gains, and the planner's map in memory. No function of the program is walked here.
-/
import Derived.Test.YtkmelddejdikgaaInv
import Derived.Test.YtkmelddejdikgaaPaP
import Derived.Maps.Keyed
import Derived.DeepKeys4
set_option linter.unusedSimpArgs false
set_option linter.unusedVariables false
namespace Go.Proofs.Ytkmelddejdikgaa
open Go.RowKit PM Dt
/-- All blocks but those from lo to hi are as they were. -/
structure Save (lo hi : Nat) (a w : World) : Prop where
  os : w.os = a.os
  tape : w.tape = a.tape
  output : w.output = a.output
  size : a.heap.size ≤ w.heap.size
  block : ∀ k, k < a.heap.size → (k < lo ∨ hi < k) → w.heap[k]? = a.heap[k]?
variable {lo hi : Nat} {a b c : World}
theorem Save.of (h : Below a.heap.size a b) : Save lo hi a b := ⟨h.os, h.tape, h.output, h.size, fun k hk _ => h.block k hk⟩
theorem Save.refl (lo hi : Nat) (a : World) : Save lo hi a a := Save.of (Below.refl _ _)
theorem Save.trans (h : Save lo hi a b) (k : Below a.heap.size b c) : Save lo hi a c :=
  ⟨k.os.trans h.os, k.tape.trans h.tape, k.output.trans h.output, Nat.le_trans h.size k.size, fun j hj ho => (k.block j hj).trans (h.block j hj ho)⟩
theorem Save.next (h : Save lo hi a b) (k : Save lo hi b c) : Save lo hi a c :=
  ⟨k.os.trans h.os, k.tape.trans h.tape, k.output.trans h.output, Nat.le_trans h.size k.size, fun j hj ho => (k.block j (Nat.lt_of_lt_of_le hj h.size) ho).trans (h.block j hj ho)⟩
theorem Save.alloc (h : Save lo hi a b) (hs : a.heap.size ≤ b.heap.size) (o : Obj) : Save lo hi a (b.alloc o) := h.trans ((Below.refl _ _).alloc hs o)
theorem Save.drew (h : Save lo hi a b) : Save lo hi a b.drew := ⟨h.os, h.tape, h.output, h.size, h.block⟩
theorem Save.row (h : Save lo hi a b) {g : Nat} (hg : (lo ≤ g ∧ g ≤ hi) ∨ a.heap.size ≤ g) (x : Array Value) : Save lo hi a (b.setRow g x) :=
  ⟨h.os, h.tape, h.output, by simpa using h.size, fun k hk ho => by rw [setRow_other _ _ _ _ (by omega)]; exact h.block k hk ho⟩
/-- What lies below the interval. -/
theorem Save.below (h : Save lo hi a b) {n : Nat} (hn : n ≤ a.heap.size) (hl : n ≤ lo) : Below n a b := ⟨h.os, h.tape, h.output, h.size, fun k hk => h.block k (by omega) (by omega)⟩
theorem blk.save {x : Nat} {cs : Array Value} {t : TypeId} (h : blk a x cs t) (hs : Save lo hi a b) (ho : x < lo ∨ hi < x) : blk b x cs t := by
  unfold blk at h ⊢
  rw [hs.block x (blk.lt h) ho]; exact h
end Go.Proofs.Ytkmelddejdikgaa
namespace Go.Proofs.Ytkmelddejdikgaa
open Go.RowKit PM Dt Pa
open Go.WideElems (Fit rd rg pl rd_val rd_key)
open Go.ChangeMaps (setBlock heap_setBlock_same heap_setBlock_other)
/-- A window, a point, a gain, rules, a planner. -/
def wnc (f : Nat → Int) : Array Value := #[.int .i64 (f 0), .int .i64 (f 1), .int .i64 (f 2), .int .i64 (f 3), .int .i64 (f 4)]
def ptc (x : Int × Int × Int) : Array Value := #[.int .i64 x.1, .int .i64 x.2.1, .int .i64 x.2.2]
def gnc (x : Int × Int) : Array Value := #[.int .i64 x.1, .int .i64 x.2]
def ruc (x : Int × Int × Int) : Array Value := #[.int .i64 x.1, .int .i64 x.2.1, .int .i64 x.2.2]
def plc (x : Value × Int × Nat) : Array Value := #[x.1, .int .i64 x.2.1, .map (some x.2.2)]
theorem wnc_size (f : Nat → Int) : (wnc f).size = 5 := rfl
theorem wnc_one (f : Nat → Int) : (wnc f).all (·.oneCell') = true := by simp [wnc, Value.oneCell']
theorem ptc_size (x : Int × Int × Int) : (ptc x).size = 3 := rfl
theorem ptc_one (x : Int × Int × Int) : (ptc x).all (·.oneCell') = true := by simp [ptc, Value.oneCell']
theorem gnc_size (x : Int × Int) : (gnc x).size = 2 := rfl
theorem gnc_one (x : Int × Int) : (gnc x).all (·.oneCell') = true := by simp [gnc, Value.oneCell']
theorem ruc_size (x : Int × Int × Int) : (ruc x).size = 3 := rfl
theorem zero_wnc : (#[.int .i64 0, .int .i64 0, .int .i64 0, .int .i64 0, .int .i64 0] : Array Value) = wnc (fun _ => 0) := rfl
theorem zero_ptc : (#[.int .i64 0, .int .i64 0, .int .i64 0] : Array Value) = ptc (0, 0, 0) := rfl
theorem zero_gnc : (#[.int .i64 0, .int .i64 0] : Array Value) = gnc (0, 0) := rfl
theorem over_wnc (f g : Nat → Int) : over (wnc f) 0 (wnc g).toList = wnc g := rfl
theorem over_ptc (f g : Int × Int × Int) : over (ptc f) 0 (ptc g).toList = ptc g := rfl
theorem over_gnc (f g : Int × Int) : over (gnc f) 0 (gnc g).toList = gnc g := rfl
theorem wnc_get (f : Nat → Int) (j : Nat) (hj : j < (wnc f).size) : (wnc f).toList[0 + j]? = (wnc f)[j]? := by rw [Nat.zero_add, Array.getElem?_toList]
/-- The elements of a slice: each lies as the list says. -/
def Els (w : World) (a : Option Addr) (n sz : Nat) (C : Nat → List Value) : Prop :=
  ∀ k, k < n → ∃ b off, a = some ⟨b, off, none⟩ ∧ b < w.heap.size ∧ w.rangeAt b (off + k * sz) (C k)
theorem Els.below {B : Nat} {w w' : World} {a : Option Addr} {n sz : Nat} {C : Nat → List Value} (h : Els w a n sz C) (hb : Below B w w') (hB : w.heap.size ≤ B) : Els w' a n sz C := fun k hk => by
  obtain ⟨b, off, ha, hlt, hr⟩ := h k hk
  exact ⟨b, off, ha, Nat.lt_of_lt_of_le hlt hb.size, fun j v hv => by rw [hb.cell (p := ⟨b, off + k * sz + j, none⟩) (Nat.lt_of_lt_of_le hlt hB)]; exact hr j v hv⟩
/-- The same apart from a block. -/
def ElsN (mb : Nat) (w : World) (a : Option Addr) (n sz : Nat) (C : Nat → List Value) : Prop :=
  ∀ k, k < n → ∃ b off, a = some ⟨b, off, none⟩ ∧ b < w.heap.size ∧ b ≠ mb ∧ w.rangeAt b (off + k * sz) (C k)
theorem range_save {m : Nat} {w w' : World} {b o : Nat} {C : List Value} (h : w.rangeAt b o C) (hs : Save m m w w') (hl : b < w.heap.size) (hn : b ≠ m) : w'.rangeAt b o C := fun j u hj => by
  have hc : w'.cell? ⟨b, o + j, none⟩ = w.cell? ⟨b, o + j, none⟩ := by
    unfold World.cell?
    rw [show w'.heap[(⟨b, o + j, none⟩ : Addr).block]? = w.heap[(⟨b, o + j, none⟩ : Addr).block]? from hs.block b hl (by omega)]
  rw [hc]; exact h j u hj
theorem ElsN.save {m : Nat} {w w' : World} {a : Option Addr} {n sz : Nat} {C : Nat → List Value} (h : ElsN m w a n sz C) (hs : Save m m w w') : ElsN m w' a n sz C := fun k hk => by
  obtain ⟨b, off, ha, hlt, hn, hr⟩ := h k hk
  exact ⟨b, off, ha, Nat.lt_of_lt_of_le hlt hs.size, hn, range_save hr hs hlt hn⟩
theorem valR_range {P : Program} {op : Oper} {a : Act} {w : World} (ty : TypeId) (x : Operand) (ho : op.op = .load ty x) (b o : Nat) (hx : a.eval x = .pointer (some ⟨b, o, none⟩))
    (C : List Value) (oo j0 : Nat) (hr : w.rangeAt b oo C) (hoo : o = oo + j0) (cs : Array Value) (hc : ∀ j, j < cs.size → C[j0 + j]? = cs[j]?) (d : TypeDesc)
    (hu : P.underlying ty = some d) (hd : d.isRow = true) (hi : (P.info? ty).map (·.size) = some cs.size) {v : Value} (hv : v = .agg cs) : ValR v w ((execOp a.eval op).run P w) := by
  have hr2 : w.rangeAt b o cs.toList := fun j u hj => by
    have h1 : j < cs.toList.length := (List.getElem?_eq_some_iff.1 hj).1
    have h2 : cs[j]? = some u := by simpa using hj
    have h3 := hr (j0 + j) u ((hc j (by simpa using h1)).trans h2)
    rw [hoo, Nat.add_assoc]
    exact h3
  unfold execOp
  simp only [ho, hx, Instr.loadAt, Instr.sureAddr, Sem.run_bind, Sem.run_pure, Result.andThen_ok, run_loadVar_mid w b o ty cs.toList d hr2 hu hd (by simpa using hi)]
  exact ⟨by rw [hv], rfl⟩
theorem range_below {B : Nat} {w w' : World} {b o : Nat} {C : List Value} (h : w.rangeAt b o C) (hb : Below B w w') (hl : b < B) : w'.rangeAt b o C := fun j u hj => by
  rw [hb.cell (p := ⟨b, o + j, none⟩) hl]; exact h j u hj
section
variable {P : Program} {Q : Exit → Act → World → Prop} {l : List Oper} {M : List Nat} {vs : List ((Nat → Nat) → Value)} {R : (Nat → Nat) → (Nat → Bool) → World → Prop} {A : (Nat → Nat) → Act} {fr : List Nat} {o : Oper}
/-- A call of which the relation of its memories is known. -/
theorem stepI_rel (i : Nat) (ho : l[i]? = some o) (hw : ∀ p, Region.wanted o (yielded l.toArray (A p).tmps) = true) (T : (Nat → Nat) → World → World → Prop)
    (h : ∀ p L w1, R p L w1 → KnowI M R i L → DetR P (fun w2 => T p w1 w2) ((vs.getD i vI) p) ((execOp (A p).eval o).run P w1))
    (hR : ∀ p L w1 w2, R p L w1 → KnowI M R i L → T p w1 w2 → R p (upL L i) w2) : StepI P l M vs R A fr i :=
  stepI_gen i ho hw fun p L w1 hr hk => by
    have h1 := h p L w1 hr hk
    generalize (execOp (A p).eval o).run P w1 = r at *
    cases r with
    | ok n w' =>
      cases n <;> simp only [DetR] at h1 <;> simp only [StepR]
      case value u => exact ⟨p i, fun _ => rfl, by rw [upN_self]; exact h1.1, by rw [upN_self]; exact hR _ _ _ _ hr hk h1.2⟩
      case skip => exact ⟨p i, fun _ => rfl, by rw [upN_self]; exact h1.1.symm, by rw [upN_self]; exact hR _ _ _ _ hr hk h1.2⟩
      case enter f args => exact h1.mono fun e w'' ⟨he, hs⟩ => ⟨_, he, p i, fun _ => rfl, by rw [upN_self], by rw [upN_self]; exact hR _ _ _ _ hr hk hs⟩
    | halt x w' => exact h1.elim
end
/-! ### The map -/
/-- The map's block. -/
structure mpAt (lo b : Nat) (w : World) (F : Array MapEntry × Nat) : Prop where
  h : w.heap[b]? = some (.map F.1 F.2)
  l : lo = b
variable {lo b : Nat} {w w' : World} {F : Array MapEntry × Nat}
theorem mpAt.lt (h : mpAt lo b w F) : b < w.heap.size := (Array.getElem?_eq_some_iff.1 h.h).1
theorem mpAt.below {B : Nat} (h : mpAt lo b w F) (hm : Below B w w') (hl : b < B) : mpAt lo b w' F := ⟨(hm.block b hl).trans h.h, h.l⟩
theorem mpAt.alloc (h : mpAt lo b w F) (c : Obj) : mpAt lo b (w.alloc c) F := ⟨by
  have := h.lt
  rw [← h.h]
  exact ((Below.refl w.heap.size w).alloc (Nat.le_refl _) c).block b this, h.l⟩
theorem mpAt.drew (h : mpAt lo b w F) : mpAt lo b w.drew F := ⟨h.h, h.l⟩
theorem mpAt.rowOther (h : mpAt lo b w F) {g : Nat} (hg : g < lo ∨ b < g) (c : Array Value) : mpAt lo b (w.setRow g c) F := ⟨by rw [setRow_other _ _ _ _ (by have := h.l; omega)]; exact h.h, h.l⟩
theorem mpAt.save {lo' hi : Nat} (h : mpAt lo b w F) (hs : Save lo' hi w w') (ho : b < lo' ∨ hi < lo) : mpAt lo b w' F := ⟨(hs.block b h.lt (by have := h.l; omega)).trans h.h, h.l⟩
theorem lenI (x : Lit × DataW Unit) : ∀ l : List (Lit × DataW Unit), (DataW.insert x l).length = l.length + 1
  | [] => rfl
  | y :: r => by
    unfold DataW.insert
    split
    · rfl
    · simp [lenI x r]
theorem lenS : ∀ l : List (Lit × DataW Unit), (l.foldr DataW.insert []).length = l.length
  | [] => rfl
  | x :: r => by simp [lenI, lenS r]
theorem Save.wide {lo hi lo' hi' : Nat} {a w : World} (h : Save lo hi a w) (h1 : lo' ≤ lo) (h2 : hi ≤ hi') : Save lo' hi' a w := ⟨h.os, h.tape, h.output, h.size, fun k hk ho => h.block k hk (by omega)⟩
/-- How an element reads: it is not looked at. -/
def Rd0 : Value → Option (DataW Unit × List MemPlace) := fun _ => some (.lit (.bool true), [])
/-- An entry that holds the gain of its point. -/
def good (Rr : Nat → Int → Int → Int × Int) (x : MapEntry) : Prop := ∃ (l : Int) (k : Nat) (b : Int), x.key = .agg (ptc (l, k, b)) ∧ x.val = .agg (gnc (Rr k l b))
structure MpOk (Rr : Nat → Int → Int → Int × Int) (N : Nat) (F : Array MapEntry × Nat) : Prop where
  fit : Fit Try.prog 128 Rd0 F.1 F.2
  sz : F.1.size ≤ N
  ok : ∀ x ∈ F.1.toList, good Rr x
theorem MpOk.new (Rr : Nat → Int → Int → Int × Int) : MpOk Rr 0 (#[], 0) := ⟨⟨by simp, Go.MapKept.stamped_empty 0, by simp⟩, Nat.le_refl _, by simp⟩
theorem MpOk.mono {Rr : Nat → Int → Int → Int × Int} {N N' : Nat} (h : MpOk Rr N F) (hn : N ≤ N') : MpOk Rr N' F := ⟨h.fit, Nat.le_trans h.sz hn, h.ok⟩
/-- The map of right entries. -/
def mpo (Rr : Nat → Int → Int → Int × Int) (lo b : Nat) (w : World) (N : Nat) : Prop := ∃ F, mpAt lo b w F ∧ MpOk Rr N F
section
variable {Rr : Nat → Int → Int → Int × Int} {N : Nat}
theorem mpo.lt (h : mpo Rr lo b w N) : b < w.heap.size := let ⟨_, m, _⟩ := h; m.lt
theorem mpo.below {B : Nat} (h : mpo Rr lo b w N) (hm : Below B w w') (hl : b < B) : mpo Rr lo b w' N := let ⟨F, m, k⟩ := h; ⟨F, m.below hm hl, k⟩
theorem mpo.alloc (h : mpo Rr lo b w N) (c : Obj) : mpo Rr lo b (w.alloc c) N := let ⟨F, m, k⟩ := h; ⟨F, m.alloc c, k⟩
theorem mpo.drew (h : mpo Rr lo b w N) : mpo Rr lo b w.drew N := let ⟨F, m, k⟩ := h; ⟨F, m.drew, k⟩
theorem mpo.rowOther (h : mpo Rr lo b w N) {g : Nat} (hg : g < lo ∨ b < g) (c : Array Value) : mpo Rr lo b (w.setRow g c) N := let ⟨F, m, k⟩ := h; ⟨F, m.rowOther hg c, k⟩
theorem mpo.save {lo' hi : Nat} (h : mpo Rr lo b w N) (hs : Save lo' hi w w') (ho : b < lo' ∨ hi < lo) : mpo Rr lo b w' N := let ⟨F, m, k⟩ := h; ⟨F, m.save hs ho, k⟩
theorem mpo.mono {N' : Nat} (h : mpo Rr lo b w N) (hn : N ≤ N') : mpo Rr lo b w N' := let ⟨F, m, k⟩ := h; ⟨F, m, k.mono hn⟩
end
theorem laidP : laidOutB Try.prog = true := by kernel_rfl
theorem rowPt : (128 : TypeId) < Try.prog.types.size := of_decide_eq_true (by kernel_rfl)
theorem widePt : (match Try.prog.underlying 128 with | some (.array _ _) | some (.struct _) => true | _ => false) = true := by kernel_rfl
set_option maxRecDepth 100000 in
theorem keyPt : Go.Maps.Keyed Try.prog 128 := Go.Maps.Keyed.of_law (deep_law_laid laidP (m := 2) (by omega) rowPt (by kernel_rfl) widePt)
theorem zeroGn (w : World) : (zeroValue 130).run Try.prog w = .ok (.agg (gnc (0, 0))) w := by kernel_rfl
theorem cellsPt : Try.prog.cellsOf 128 = 3 := by kernel_rfl
theorem ktPt : Try.prog.keyType 128 = true := by kernel_rfl
set_option maxRecDepth 100000 in
theorem keyOf_pt {x : Int × Int × Int} (h0 : (Lit.int .i64 x.1).wf = true) (h1 : (Lit.int .i64 x.2.1).wf = true) (h2 : (Lit.int .i64 x.2.2).wf = true) : ∃ kl, keyOf Try.prog 128 (.agg (ptc x)) = some kl := by
  have hsz : ∃ m, Try.prog.types.size = m + 1 := ⟨Try.prog.types.size - 1, (Nat.succ_pred_eq_of_pos (Nat.lt_of_le_of_lt (Nat.zero_le _) rowPt)).symm⟩
  obtain ⟨m, hm⟩ := hsz
  unfold keyOf
  rw [Try.underlying128]
  dsimp only
  rw [if_pos (by rw [ktPt]; simp [Value.formed, Try.underlying128, cellsPt, ptc]), hm]
  unfold Program.keyLits
  rw [Try.underlying128]
  dsimp only [Value.cells]
  rw [if_pos ⟨by rw [cellsPt]; rfl, by simp⟩]
  have c2 : Try.prog.cellsOf 3 = 1 := by kernel_rfl
  have c3 : Try.prog.cellsOf 2 = 1 := by kernel_rfl
  simp [List.mapM_cons, Program.keyLits, Try.underlying3, Try.underlying2, h0, h1, h2, ptc, c2, c3]
variable {Rr : Nat → Int → Int → Int × Int} {N : Nat}
theorem MpOk.look (h : MpOk Rr N F) {l : Int} {k : Nat} {bu : Int} (hl : (Lit.int .i64 l).wf = true) (hk : (Lit.int .i64 (k : Int)).wf = true) (hb : (Lit.int .i64 bu).wf = true) (b : Nat) :
    ∃ v is, ((is = true ∧ v = .agg (gnc (Rr k l bu))) ∨ (is = false ∧ v = .agg (gnc (0, 0)))) ∧ ∀ w lo, mpAt lo b w F → (Instr.lookup 124 (.map (some b)) (.agg (ptc (l, k, bu))) true).run Try.prog w = .ok (.tuple #[v, .bool is]) w := by
  obtain ⟨kl, hkey⟩ := keyOf_pt (x := (l, (k : Int), bu)) hl hk hb
  by_cases hx : ∃ x ∈ F.1.toList, x.key = .agg (ptc (l, k, bu))
  · refine ⟨_, _, .inl ⟨rfl, rfl⟩, fun w lo hm => ?_⟩
    rcases Go.Maps.fit_look (R := Rd0) true keyPt Try.underlying124 (zeroGn w) hm.h h.fit hkey with ⟨_, hno, _⟩ | ⟨e0, y, hm0, hk0, hrun, _⟩
    · obtain ⟨x, hx1, hx2⟩ := hx
      exact absurd hx2 (hno x hx1)
    · rw [hrun]
      obtain ⟨l', k', b', hkk, hvv⟩ := h.ok e0 hm0
      rw [hk0] at hkk
      simp only [ptc, Value.agg.injEq, Array.mk.injEq, List.cons.injEq, Value.int.injEq, true_and, and_true] at hkk
      obtain ⟨rfl, h2, rfl⟩ := hkk
      have : k = k' := by omega
      subst this
      rw [hvv]; rfl
  · refine ⟨_, _, .inr ⟨rfl, rfl⟩, fun w lo hm => ?_⟩
    rcases Go.Maps.fit_look (R := Rd0) true keyPt Try.underlying124 (zeroGn w) hm.h h.fit hkey with ⟨hrun, _, _⟩ | ⟨e0, y, hm0, hk0, _⟩
    · rw [hrun]; rfl
    · exact absurd ⟨e0, hm0, hk0⟩ hx
theorem Save.turn {w : World} {e e' : Array MapEntry} {c c' : Nat} (h : w.heap[b]? = some (.map e c)) : Save b b w (setBlock w b (.map e' c')) :=
  ⟨rfl, rfl, rfl, by simp [setBlock], fun i hi hn => heap_setBlock_other h _ (by omega)⟩
theorem MpOk.store (h : MpOk Rr N F) (hN : N < maxLen) {l : Int} {k : Nat} {bu : Int} (hl : (Lit.int .i64 l).wf = true) (hk : (Lit.int .i64 (k : Int)).wf = true) (hb : (Lit.int .i64 bu).wf = true) (hm : mpAt lo b w F) :
    ∃ F' w', (Instr.mapUpdate 124 (.map (some b)) (.agg (ptc (l, k, bu))) (.agg (gnc (Rr k l bu)))).run Try.prog w = .ok () w' ∧ mpAt lo b w' F' ∧ MpOk Rr (N + 1) F' ∧ Save b b w w' := by
  obtain ⟨kl, hkey⟩ := keyOf_pt (x := (l, (k : Int), bu)) hl hk hb
  obtain ⟨es', clock', hrun, F', hput, _, _, hwho⟩ := Go.Maps.fit_store (R' := Rd0) keyPt Try.underlying124 hm.h h.fit (Nat.lt_of_le_of_lt h.sz hN) (fun _ _ _ _ hz => hz) hkey (val := .agg (gnc (Rr k l bu))) rfl
  refine ⟨(es', clock'), _, hrun, ⟨heap_setBlock_same hm.h _, hm.l⟩, ⟨F', ?_, fun x hx => ?_⟩, Save.turn hm.h⟩
  · have e1 : es'.size = ((es'.toList.map (rg Try.prog 128 Rd0)).foldr DataW.insert []).length := by rw [lenS]; simp
    show es'.size ≤ _
    rw [e1, hput]
    unfold Go.ChangeMaps.putKey
    rw [lenI]
    have e2 := List.length_filter_le (Go.ChangeMaps.notKey kl) ((F.1.toList.map (rg Try.prog 128 Rd0)).foldr DataW.insert [])
    rw [lenS] at e2
    have := h.sz
    simp at e2
    omega
  · rcases hwho x hx with ⟨h1, _⟩ | ⟨h1, h2⟩
    · exact h.ok x h1
    · exact ⟨l, k, bu, h1, h2⟩
/-- The store of a right entry, at the operation. -/
theorem wpList_put {w : World} {ops : Array Oper} {rest : List Oper} {o : Oper} {a : Act} {Q : Exit → Act → World → Prop} (hg : o.guard = none) (mm x v : Operand) (hop : o.op = Op.mapUpdate 124 mm x v)
    {l : Int} {k : Nat} {bu : Int} (hm : a.eval mm = .map (some b)) (hx : a.eval x = .agg (ptc (l, k, bu))) (hv : a.eval v = .agg (gnc (Rr k l bu))) (h : mpo Rr lo b w N) (hN : N < maxLen)
    (hl : (Lit.int .i64 l).wf = true) (hk : (Lit.int .i64 (k : Int)).wf = true) (hb : (Lit.int .i64 bu).wf = true)
    (hK : ∀ w', mpo Rr lo b w' (N + 1) → Save b b w w' → wpList Try.prog ops Q rest (a.put o.dst undef) w') : wpList Try.prog ops Q (o :: rest) a w := by
  refine wpList_plain hg fun K' hK' => ?_
  obtain ⟨F, m, kF⟩ := h
  obtain ⟨F', w', hrun, r1, r2, r3⟩ := kF.store hN hl hk hb m
  unfold Oper.wp
  simp [execOp, hop, hm, hx, hv, hrun, Result.andThen]
  exact hK' _ _ (hK w' ⟨F', r1, r2⟩ r3)
end Go.Proofs.Ytkmelddejdikgaa
