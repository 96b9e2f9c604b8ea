/-
  The planner: rest, at every depth. Gains compared; an indexed plan's row.
-/
import Derived.Test.YtkmelddejdikgaaPaD
import Derived.Test.YtkmelddejdikgaaPaD0
import Derived.Test.YtkmelddejdikgaaPaG
import Derived.Carry
set_option linter.unusedSimpArgs false
set_option linter.unusedVariables false
namespace Go.Proofs.Ytkmelddejdikgaa
open Go.RowKit PM Dt Pa
theorem nOk_ne {L : Nat → Nat → Int} {gap last bud : Int} {k i : Nat} : nOk L gap last ((k + 1 : Nat) : Int) bud i = nxB L gap last bud i := by
  unfold nOk
  rw [decide_eq_true (show ((k + 1 : Nat) : Int) ≠ 0 by omega), Bool.true_and]
theorem rest_any (L : Nat → Nat → Int) (gap : Int) (a : Option Addr) (n c pb mb : Nat) (hW : WOk n L) (hg : 0 ≤ gap ∧ gap ≤ 1099511627776) (hn : n ≤ 12) : ∀ k, k ≤ 40 → RestC L gap a n c pb mb k := by
  intro k
  induction k with
  | zero =>
    intro hk last bud w N hp el hm hN hl hb hne
    obtain ⟨F, mF, kF⟩ := hm
    have w1 : (Lit.int .i64 last).wf = true := WalkArith.wf_i64 (by omega)
    have w2 : (Lit.int .i64 ((0 : Nat) : Int)).wf = true := WalkArith.wf_i64 (by omega)
    have w3 : (Lit.int .i64 bud).wf = true := WalkArith.wf_i64 (by omega)
    obtain ⟨v, is, hv, LK⟩ := kF.look w1 w2 w3 mb
    have hR : bst (fun _ => (0, 0)) (fun _ => false) n = gR n L gap 0 last bud := by
      rcases bst_or (fun _ => (0, 0)) (fun _ => false) n with h | ⟨i, _, h, _⟩
      · rw [h]; rfl
      · cases h
    have NX : ∀ i, i < n → ∀ (w1 : World), blk w1 pb (plc (.slice a n c, gap, mb)) 126 → ElsN mb w1 a n 5 (fun k => (wnc (L k)).toList) → Calls Try.prog 71 #[.pointer (some ⟨pb, 0, none⟩), .agg (ptc (last, ((0 : Nat) : Int), bud)), .int .i64 (i : Int)] w1 fun e w' => e = .returned (.tuple #[.agg (ptc (if (fun _ => false) i then ((i : Int), ((0 : Nat) : Int) - 1, bud - L i 4) else (last, ((0 : Nat) : Int), bud))), .bool ((fun _ => false) i)]) ∧ Below w1.heap.size w1 w' :=
      fun i hi w1 x1 x2 => next_no L gap a n c pb mb last ((0 : Nat) : Int) bud i w1 x1 x2 hW hg (by omega) hb hl.2 hi (by omega) rfl
    rcases hv with ⟨rfl, rfl⟩ | ⟨rfl, rfl⟩
    · exact rest_yes L gap a n c pb mb (fun _ => (0, 0)) (fun _ => false) _ 0 last bud N 0 1 F w hp el mF kF hN (by omega) (by omega) hl hb (by omega) hne LK (fun i hi h => by cases h) NX hR
    · exact rest_no L gap a n c pb mb (fun _ => (0, 0)) (fun _ => false) _ 0 last bud N 0 1 F w hp el mF kF hN (by omega) (by omega) hl hb (by omega) hne LK (fun i hi h => by cases h) NX hR
  | succ k ih =>
    intro hk last bud w N hp el hm hN hl hb hne
    obtain ⟨F, mF, kF⟩ := hm
    have w1 : (Lit.int .i64 last).wf = true := WalkArith.wf_i64 (by omega)
    have w2 : (Lit.int .i64 ((k + 1 : Nat) : Int)).wf = true := WalkArith.wf_i64 (by omega)
    have w3 : (Lit.int .i64 bud).wf = true := WalkArith.wf_i64 (by omega)
    obtain ⟨v, is, hv, LK⟩ := kF.look w1 w2 w3 mb
    have hR : bst (fun i => aft L (gR n L gap k i (bud - L i 4)) i) (nxB L gap last bud) n = gR n L gap (k + 1) last bud := rfl
    have e1 : ((k + 1 : Nat) : Int) - 1 = (k : Int) := by omega
    have NX : ∀ i, i < n → ∀ (w1 : World), blk w1 pb (plc (.slice a n c, gap, mb)) 126 → ElsN mb w1 a n 5 (fun k => (wnc (L k)).toList) → Calls Try.prog 71 #[.pointer (some ⟨pb, 0, none⟩), .agg (ptc (last, ((k + 1 : Nat) : Int), bud)), .int .i64 (i : Int)] w1 fun e w' => e = .returned (.tuple #[.agg (ptc (if nxB L gap last bud i then ((i : Int), ((k + 1 : Nat) : Int) - 1, bud - L i 4) else (last, ((k + 1 : Nat) : Int), bud))), .bool (nxB L gap last bud i)]) ∧ Below w1.heap.size w1 w' := by
      intro i hi w1 x1 x2
      cases ho : nxB L gap last bud i with
      | false => exact next_no L gap a n c pb mb last ((k + 1 : Nat) : Int) bud i w1 x1 x2 hW hg (by omega) hb hl.2 hi (by omega) (by rw [nOk_ne]; exact ho)
      | true => exact next_yes L gap a n c pb mb last ((k + 1 : Nat) : Int) bud i w1 x1 x2 hW hg (by omega) hb hl.2 hi (by omega) (by rw [nOk_ne]; exact ho)
    have AF : ∀ i, i < n → nxB L gap last bud i = true → ∀ (w1 : World) (N1 : Nat), blk w1 pb (plc (.slice a n c, gap, mb)) 126 → ElsN mb w1 a n 5 (fun k => (wnc (L k)).toList) → mpo (gR n L gap) mb mb w1 N1 → N1 + cnt k ≤ maxLen → Calls Try.prog 72 #[.pointer (some ⟨pb, 0, none⟩), .agg (ptc ((i : Int), ((k + 1 : Nat) : Int) - 1, bud - L i 4))] w1 fun e w' => e = .returned (.agg (gnc (aft L (gR n L gap k i (bud - L i 4)) i))) ∧ mpo (gR n L gap) mb mb w' (N1 + cnt k) ∧ Save mb mb w1 w' := by
      intro i hi ho w1 N1 x1 x2 x3 x4
      rw [e1]
      have hc := hW.c i hi
      unfold nxB at ho
      rw [Bool.and_eq_true] at ho
      have h1 := of_decide_eq_true ho.1
      exact after_any L gap a n c pb mb k (bud - L i 4) i N1 w1 x1 x2 x3 hW x4 (by omega) (by omega) hi (by omega) hne (ih (by omega))
    have hc : 1 + n * Pa.cnt k ≤ Pa.cnt (k + 1) := by
      have h1 := Nat.mul_le_mul_right (Pa.cnt k) hn
      show _ ≤ 1 + 12 * Pa.cnt k
      omega
    rcases hv with ⟨rfl, rfl⟩ | ⟨rfl, rfl⟩
    · exact rest_yes L gap a n c pb mb (fun i => aft L (gR n L gap k i (bud - L i 4)) i) (nxB L gap last bud) _ (k + 1) last bud N (cnt k) (cnt (k + 1)) F w hp el mF kF hN hc (by omega) hl hb (by omega) hne LK AF NX hR
    · exact rest_no L gap a n c pb mb (fun i => aft L (gR n L gap k i (bud - L i 4)) i) (nxB L gap last bud) _ (k + 1) last bud N (cnt k) (cnt (k + 1)) F w hp el mF kF hN hc (by omega) hl hb (by omega) hne LK AF NX hR
end Go.Proofs.Ytkmelddejdikgaa
namespace Go.Proofs.Ytkmelddejdikgaa
open Go.RowKit PM Dt Pa
set_option maxRecDepth 100000 in
theorem gn_eq (x y : Int × Int) (w : World) : (Op.equalIn 10000 130 (.agg (gnc x)) (.agg (gnc y))).run Try.prog w = .ok (x.1 == y.1 && x.2 == y.2) w := by
  have ht : Try.prog.underlying 130 = some (.struct (Try.prog.fieldsOf 130)) := by kernel_rfl
  have hp : Try.prog.stoodInHeld 130 = false := by kernel_rfl
  rw [show (10000 : Nat) = 9999 + 1 from rfl, run_equalIn_struct w 9999 _ (gnc x) (gnc y) ht hp]
  have hf : (Try.prog.fieldsOf 130).toList = [{ name := "value", type := 2, offset := 0, embedded := false, tag := "", pkgPath := "perigee/passes", byteOffset := 0 }, { name := "many", type := 3, offset := 1, embedded := false, tag := "", pkgPath := "perigee/passes", byteOffset := 8 }] := by kernel_rfl
  rw [hf]
  have p1 : ∀ (z : Int × Int) (w : World), (part 2 (gnc z) 0).run Try.prog w = .ok (.int .i64 z.1) w := fun z w => by unfold gnc; kernel_rfl
  have p2 : ∀ (z : Int × Int) (w : World), (part 3 (gnc z) 1).run Try.prog w = .ok (.int .i64 z.2) w := fun z w => by unfold gnc; kernel_rfl
  have q1 := run_equalIn_int (P := Try.prog) w 9998 2 .i64 .i64 x.1 y.1 Try.underlying2
  have q2 := run_equalIn_int (P := Try.prog) w 9998 3 .i64 .i64 x.2 y.2 Try.underlying3
  cases h1 : (x.1 == y.1) <;> cases h2 : (x.2 == y.2) <;> rw [h1] at q1 <;> rw [h2] at q2 <;> simp [Op.eqFields, p1, p2, q1, q2]
def plv (q : List Nat) : List Value := q.map fun (i : Nat) => Value.int .i64 (i : Int)
theorem plv_len (q : List Nat) : (plv q).length = q.length := by simp [plv]
theorem plv_snoc (q : List Nat) (i : Nat) : plv (q ++ [i]) = plv q ++ [.int .i64 (i : Int)] := by simp [plv]
theorem plv_get (q : List Nat) (k : Nat) (h : k < q.length) : (plv q)[k]? = some (.int .i64 ((q.getD k 0 : Nat) : Int)) := by
  simp [plv, List.getD, List.getElem?_eq_getElem h]
theorem row_Pli {w : World} {base : Nat} {v : Value} {q : List Nat} (h : w.ownsRow base 3 1 v q.length (plv q)) : ∃ a c, v = .slice a q.length c ∧ Pli w a q ∧ ∀ k, v.ownBlock = some k → base ≤ k ∧ k < w.heap.size := by
  have hl := h.lt
  rcases h.2 with ⟨rfl, h0⟩ | ⟨g, cap, cur, rfl, hb, hg, h1, h2, h3, h4⟩
  · exact ⟨none, 0, by rw [h0], fun k hk => by omega, hl⟩
  · refine ⟨some ⟨g, 0, none⟩, cap, rfl, fun k hk => ⟨g, 0, rfl, (hl g rfl).2, fun j u hj => ?_⟩, hl⟩
    have hj0 : j = 0 := by
      cases j with
      | zero => rfl
      | succ j => simp at hj
    subst hj0
    have hu : u = .int .i64 ((q.getD k 0 : Nat) : Int) := by simpa using hj.symm
    subst hu
    have hb' : blk w g cur 3 := hg
    have h5 := plv_get q k hk
    rw [← h4, List.getElem?_take] at h5
    have h6 : cur[k]? = some (.int .i64 ((q.getD k 0 : Nat) : Int)) := by
      split at h5
      · rw [← Array.getElem?_toList]; exact h5
      · cases h5
    have := hb'.cellIs h6
    simpa using this
/-- A slice that the call has made: its row lies from lo to b. -/
def rowo (lo b : Nat) (w : World) (F : Value × List Nat) : Prop := w.ownsRow lo 3 1 F.1 F.2.length (plv F.2) ∧ (∀ k, F.1.ownBlock = some k → k ≤ b) ∧ b < w.heap.size
theorem ownsRow_keep {w w' : World} {base : Nat} {e : TypeId} {size n : Nat} {v : Value} {xs : List Value} (h : w.ownsRow base e size v n xs) (hk : ∀ k, v.ownBlock = some k → w'.heap[k]? = w.heap[k]?) : w'.ownsRow base e size v n xs := by
  refine ⟨h.1, ?_⟩
  rcases h.2 with h1 | ⟨g, cap, cur, rfl, hb, hg, r⟩
  · exact .inl h1
  · exact .inr ⟨g, cap, cur, rfl, hb, by rw [hk g rfl]; exact hg, r⟩
section
variable {lo b : Nat} {w w' : World} {F : Value × List Nat}
theorem rowo.lt (h : rowo lo b w F) : b < w.heap.size := h.2.2
theorem rowo.below {B : Nat} (h : rowo lo b w F) (hm : Below B w w') (hl : b < B) : rowo lo b w' F := ⟨ownsRow_keep h.1 fun k hk => hm.block k (Nat.lt_of_le_of_lt (h.2.1 k hk) hl), h.2.1, Nat.lt_of_lt_of_le h.2.2 hm.size⟩
theorem rowo.alloc (h : rowo lo b w F) (c : Obj) : rowo lo b (w.alloc c) F := h.below (B := w.heap.size) ((Below.refl _ _).alloc (Nat.le_refl _) c) h.2.2
theorem rowo.drew (h : rowo lo b w F) : rowo lo b w.drew F := h
theorem rowo.save {lo' hi : Nat} (h : rowo lo b w F) (hs : Save lo' hi w w') (ho : b < lo' ∨ hi < lo) : rowo lo b w' F := ⟨ownsRow_keep h.1 fun k hk => hs.block k (h.1.lt k hk).2 (by have := h.2.1 k hk; have := (h.1.lt k hk).1; omega), h.2.1, Nat.lt_of_lt_of_le h.2.2 hs.size⟩
theorem rowo.rowOther (h : rowo lo b w F) {g : Nat} (hg : g < lo ∨ b < g) (c : Array Value) : rowo lo b (w.setRow g c) F := ⟨ownsRow_keep h.1 fun k hk => setRow_other _ _ _ _ (by have := h.2.1 k hk; have := (h.1.lt k hk).1; omega), h.2.1, by simpa using h.2.2⟩
theorem Save.grown {row : Option Nat} (h : w.grownBy w' row) (hr : ∀ k, row = some k → lo ≤ k ∧ k ≤ b) : Save lo b w w' :=
  ⟨h.os, h.tape, h.output, h.size, fun k hk ho => h.block k hk fun e => by have := hr k e.symm; omega⟩
theorem ElsN.of {mb : Nat} {a : Option Addr} {n sz : Nat} {C : Nat → List Value} (h : Els w a n sz C) (hl : w.heap.size ≤ mb) (hb : Below w.heap.size w w') : ElsN mb w' a n sz C := fun k hk => by
  obtain ⟨x, off, ha, hlt, hr⟩ := h k hk
  exact ⟨x, off, ha, Nat.lt_of_lt_of_le hlt hb.size, by omega, range_below hr hb hlt⟩
theorem ownsRow_low {base m : Nat} {e : TypeId} {size n : Nat} {v : Value} {xs : List Value} (h : w.ownsRow base e size v n xs) (hm : m ≤ base) : w.ownsRow m e size v n xs := by
  refine ⟨h.1, ?_⟩
  rcases h.2 with h1 | ⟨g, cap, cur, rfl, hb, r⟩
  · exact .inl h1
  · exact .inr ⟨g, cap, cur, rfl, by omega, r⟩
end
theorem cell_new (w : World) (u : Value) (t : TypeId) : ∀ j x, ([u] : List Value)[j]? = some x → (w.alloc (.cells #[u] t)).cell? ((⟨w.heap.size, 0, none⟩ : Addr).add j) = some x := fun j x hj => by
  cases j with
  | zero =>
    have : x = u := by simpa using hj.symm
    subst this
    exact (blk.new w #[x] t).cellIs rfl
  | succ j => simp at hj
theorem Try.infoInt : (Try.prog.info? 3).map (fun i => (i.zero, i.size, i.bytes)) = some (some (.int .i64 0), 1, 8) := by kernel_rfl
theorem cnt12 : Pa.cnt 12 = 9726655034461 := by decide
theorem next_yn (L : Nat → Nat → Int) (gap : Int) (a : Option Addr) (n c pb mb : Nat) (last left bud : Int) (i : Nat) (w : World) (hp : blk w pb (plc (.slice a n c, gap, mb)) 126) (el : ElsN mb w a n 5 (fun k => (wnc (L k)).toList)) (hW : WOk n L) (hg : 0 ≤ gap ∧ gap ≤ 1099511627776) (hl : 0 ≤ left ∧ left ≤ 40) (hb : 0 ≤ bud ∧ bud ≤ 1099511627776) (hr : last < n) (hi : i < n) (hn : n ≤ 40) :
    Calls Try.prog 71 #[.pointer (some ⟨pb, 0, none⟩), .agg (ptc (last, left, bud)), .int .i64 (i : Int)] w fun e w' => e = .returned (.tuple #[.agg (ptc (if nOk L gap last left bud i = true then ((i : Int), left - 1, bud - L i 4) else (last, left, bud))), .bool (nOk L gap last left bud i)]) ∧ Below w.heap.size w w' := by
  cases ho : nOk L gap last left bud i with
  | false => exact next_no L gap a n c pb mb last left bud i w hp el hW hg hl hb hr hi hn ho
  | true => exact next_yes L gap a n c pb mb last left bud i w hp el hW hg hl hb hr hi hn ho
theorem sum0 {n : Nat} {L : Nat → Nat → Int} {gap : Int} (h : WOk n L) : ∀ {q : List Nat} {l : Int}, chn n L gap l q → 0 ≤ sumF L 4 q
  | [], _, _ => Int.le_refl _
  | x :: q, _, hc => by
    have h1 := sum0 h hc.2.2
    have h2 := (h.c x hc.1).1
    unfold sumF; omega
theorem nar {N N2 j n ck ck1 c0 : Nat} (h : N2 = N + j * ck) (h1 : N + 3 * ck1 ≤ 4 * c0) (h2 : ck1 = 1 + 12 * ck) (hj : j < n) (hn : n ≤ 12) : N2 + 13 * ck ≤ 4 * c0 := by
  have := Nat.mul_le_mul_right ck (show j ≤ 11 by omega)
  omega
end Go.Proofs.Ytkmelddejdikgaa
