/-
  Chapter 20: stars that are seen exactly.
-/
import Derived.Test.YtkmelddejdikgaaSkL
import Derived.Test.YtkmelddejdikgaaBet
import Derived.Test.YtkmelddejdikgaaVUnitP
import Derived.Test.YtkmelddejdikgaaLawQ
set_option linter.unusedSimpArgs false
set_option linter.unusedVariables false
namespace Go.Proofs.Ytkmelddejdikgaa
open Go.RowKit PM Dt
theorem results_ctt {P : Program} {fn : Func} {p u1 u2 : Tmp} {ty : TypeId} (h : fn.results = #[.cell p ty, .tmp u1, .tmp u2]) (tmps : Array Value) (w : World) (g : Nat) (t : TypeId) (cs : Array Value) (fr : Nat × Nat) (d : TypeDesc)
    (hp : tmps.getD p undef = .pointer (some ⟨g, 0, none⟩)) (hg : w.heap[g]? = some (.cells cs t fr))
    (hu : P.underlying ty = some d) (hd : (match d with | .struct _ | .array _ _ => true | _ => false) = true) (hi : (P.info? ty).map (·.size) = some cs.size) :
    (results fn tmps).run P w = .ok (.tuple #[.agg cs, tmps.getD u1 undef, tmps.getD u2 undef]) w := by
  have hp' : tmps[p]?.getD undef = .pointer (some ⟨g, 0, none⟩) := by simpa using hp
  simp only [results, h]
  simp [Sem.run_bind, hp', asAddr, run_loadVar_row w g t ty cs fr d hg hu hd hi, Result.andThen]
/-- The sights of stars that are seen exactly. -/
def exS (q : Nat → Int) (L : Nat → Nat → Int) : Nat → Sgt := fun s => ⟨vunF (L s), qbackF (qunF q) (vunF (L s)), 1⟩
/-- The cells of the first k sights. -/
def flS (S : Nat → Sgt) : Nat → List Value
  | 0 => []
  | k + 1 => flS S k ++ (sgc (S k)).toList
theorem flS_len (S : Nat → Sgt) : ∀ k, (flS S k).length = k * 7
  | 0 => rfl
  | k + 1 => by rw [flS, List.length_append, flS_len S k]; show k * 7 + 7 = _; omega
theorem flS_get (S : Nat → Sgt) {i j : Nat} : ∀ {k}, i < k → j < 7 → (flS S k)[i * 7 + j]? = (sgc (S i)).toList[j]?
  | 0, h, _ => by omega
  | k + 1, h, hj => by
    have hl := flS_len S k
    rw [flS]
    by_cases e : i = k
    · subst e
      rw [List.getElem?_append_right (by omega), hl, show i * 7 + j - i * 7 = j by omega]
    · rw [List.getElem?_append_left (by omega)]
      exact flS_get S (by omega) hj
theorem el_own {w : World} {base n : Nat} {e : TypeId} {v : Value} {S : Nat → Sgt} (hn : 0 < n) (h : w.ownsRow base e 7 v n (flS S n)) : ∃ nb cap, v = .slice (some ⟨nb, 0, none⟩) n cap ∧ base ≤ nb ∧ ElemsA w (some ⟨nb, 0, none⟩) n 7 (fun k => (sgc (S k)).toList) := by
  obtain ⟨hl, ⟨rfl, h0⟩ | ⟨g, cap, cur, rfl, hb, hg, h1, h2, h3, h4⟩⟩ := h
  · omega
  · refine ⟨g, cap, rfl, hb, fun k hk => ⟨g, 0, rfl, (Array.getElem?_eq_some_iff.1 hg).1, fun j u hj => ?_⟩⟩
    have hj7 : j < 7 := by
      have := (List.getElem?_eq_some_iff.1 hj).1
      simpa [sgc] using this
    have hc := World.ownsRow.cells (w := w) (base := base) (e := e) (size := 7) (v := .slice (some ⟨g, 0, none⟩) n cap) (n := n) (xs := flS S n) ⟨hl, .inr ⟨g, cap, cur, rfl, hb, hg, h1, h2, h3, h4⟩⟩ (g := g) rfl (k * 7 + j) u (by rw [flS_get S hk hj7]; exact hj)
    have hadd : (⟨g, 0, none⟩ : Addr).add (k * 7 + j) = ⟨g, 0 + k * 7 + j, none⟩ := by
      rw [Nat.zero_add]; unfold Addr.add; split <;> simp_all
    rw [hadd] at hc
    exact hc
theorem qun_I (q : Nat → Int) (i : Nat) (hi : i < 4) : I64 (qunF q i) := by
  unfold qunF
  split
  · split
    · exact ⟨by show (-9223372036854775808 : Int) ≤ 0; omega, by show (0 : Int) ≤ 9223372036854775807; omega⟩
    · exact ratioV_J _ _ _
  · exact ⟨by show (-9223372036854775808 : Int) ≤ 0; omega, by show (0 : Int) ≤ 9223372036854775807; omega⟩
section
variable {P : Program} {ops : Array Oper} {Q : Exit → Act → World → Prop} {op : Oper} {rest : List Oper} {a : Act} {w : World}
theorem wpList_load_elem (hw : Region.wanted op (yielded ops a.tmps) = true) (ty : TypeId) (x : Operand) (ho : op.op = .load ty x) (b o : Nat) (hx : a.eval x = .pointer (some ⟨b, o, none⟩))
    (cs : Array Value) (hr : w.rangeAt b o cs.toList) (d : TypeDesc) (hu : P.underlying ty = some d) (hd : d.isRow = true) (hi : (P.info? ty).map (·.size) = some cs.size)
    (h : wpList P ops Q rest (a.put op.dst (.agg cs)) w) : wpList P ops Q (op :: rest) a w :=
  wpList_step fun K hK => by
    rw [if_pos hw]
    exact wp_load_mid ty x ho b o hx cs.toList d hr hu hd (by simpa using hi) (by simpa using hK _ _ h)
end
theorem blk_grown {w w' : World} {b : Nat} {c : Array Value} {t : TypeId} {row : Option Nat} (h : blk w b c t) (hg : w.grownBy w' row) (hne : ∀ k, row = some k → k ≠ b) : blk w' b c t := by
  unfold blk at h ⊢
  rw [hg.block b (Array.getElem?_eq_some_iff.1 h).1 (fun e => hne b e.symm rfl)]
  exact h
theorem cells_new (w : World) (cs : Array Value) (t : TypeId) : ∀ j u, cs.toList[j]? = some u → (w.alloc (.cells cs t)).cell? ((⟨w.heap.size, 0, none⟩ : Addr).add j) = some u := fun j u hj => by
  have h := (blk.new w cs t).cellIs (i := j) (v := u) (by simpa using hj)
  have hadd : (⟨w.heap.size, 0, none⟩ : Addr).add j = ⟨w.heap.size, j, none⟩ := by unfold Addr.add; split <;> simp_all
  rw [hadd]; exact h
theorem sgc_ones (s : Sgt) : ∀ u ∈ (sgc s).toList, u.oneCell' = true := by
  intro u hu
  have := sgc_one s
  rw [Array.all_eq_true] at this
  obtain ⟨i, hi, rfl⟩ := List.mem_iff_getElem.1 hu
  exact this i (by simpa using hi)
theorem el_row {w : World} {nb n sz b : Nat} {C : Nat → List Value} {cs : Array Value} (h : ElemsA w (some ⟨nb, 0, none⟩) n sz C) (hne : nb ≠ b) : ElemsA (w.setRow b cs) (some ⟨nb, 0, none⟩) n sz C := fun k hk => by
  obtain ⟨b1, o1, h1, h2, h3⟩ := h k hk
  obtain ⟨rfl, rfl⟩ : nb = b1 ∧ 0 = o1 := by simpa using h1
  refine ⟨nb, 0, rfl, by simpa using h2, fun j u hj => ?_⟩
  rw [World.cell?_of_block (w := w) (setRow_other w b nb cs hne)]
  exact h3 j u hj
theorem own_below {w w' : World} {base n sz : Nat} {e : TypeId} {v : Value} {xs : List Value} (h : w.ownsRow base e sz v n xs) (hb : Below w.heap.size w w') : w'.ownsRow base e sz v n xs :=
  h.kept (row := none) ⟨hb.os, hb.tape, hb.output, hb.size, fun k hk _ => hb.block k hk⟩ (by cases v.ownBlock <;> simp)
set_option maxRecDepth 100000 in
set_option maxHeartbeats 6000000 in
theorem sfits_any (f g : Nat → Int) (w : World) (hf : ∀ i, i < 4 → I64 (f i)) (hg : ∀ i, i < 4 → I64 (g i)) : Calls Try.prog 19 #[.agg (qfn f), .agg (qfn g)] w fun e w' => e = .returned (.bool ((betE f g == 0) && ((normE (fun j => betF f g (j + 1)) == 0) && decide (normV (fun j => betF f g (j + 1)) ≤ 4096)))) ∧ Below w.heap.size w w' := by
  have BT := Lib.hid (fun w => between_any f g w hf hg)
  have NO := Lib.hid (fun w => vnorm_any (fun j => betF f g (j + 1)) w)
  rw [show vfn (fun j => betF f g (j + 1)) = #[.int .i64 (betF f g 1), .int .i64 (betF f g 2), .int .i64 (betF f g 3)] from by unfold vfn; rfl] at NO
  generalize normV (fun j => betF f g (j + 1)) = N at *
  generalize normE (fun j => betF f g (j + 1)) = NE at *
  generalize betF f g = B at *
  generalize betE f g = BE at *
  obtain ⟨b0, h0⟩ : ∃ b, (BE == 0) = b := ⟨_, rfl⟩
  obtain ⟨b1, h1⟩ : ∃ b, (NE == 0) = b := ⟨_, rfl⟩
  obtain ⟨b2, h2⟩ : ∃ b, decide (N ≤ 4096) = b := ⟨_, rfl⟩
  rw [h0, h1, h2]
  have h0' : decide (BE = 0) = b0 := by rw [← h0]; by_cases h : BE = 0 <;> simp [h]
  have h1' : decide (NE = 0) = b1 := by rw [← h1]; by_cases h : NE = 0 <;> simp [h]
  clear hf hg
  cases b0 <;> cases b1 <;> cases b2
  all_goals
    go_enter Try.func19, Try.ntmps19
    go_upto_region 1 with (fail)
    have p : blk ((w.alloc (.cells (qfn f) 23)).alloc (.cells (qfn g) 23)) w.heap.size (qfn f) 23 := (blk.new _ _ _).alloc _
    have r : blk ((w.alloc (.cells (qfn f) 23)).alloc (.cells (qfn g) 23)) (w.heap.size + 1) (qfn g) 23 := blk.new' (by simp)
    have hB : Below w.heap.size w ((w.alloc (.cells (qfn f) 23)).alloc (.cells (qfn g) 23)) := by go_grown
    generalize ((w.alloc (.cells (qfn f) 23)).alloc (.cells (qfn g) 23)) = w0 at *
    have pq := p
    clear p
    have lt_pq := pq.lt
    have lt_r := r.lt
    have hW0 : w.heap.size ≤ w0.heap.size := by have := hB.size; first | exact this | simpa using this
    apply wp_region_Q 9 [0, 1, 3, 7, 15, 31, 63, 127, 255] [6] [_, _, _, _, _, _, (fun p => .pointer (some ⟨p 6, 0, none⟩)), (fun _ => undef), _] (fun p L w' => w0.heap.size ≤ w'.heap.size ∧ Below w.heap.size w w' ∧ blk w' w.heap.size (qfn f) 23 ∧ blk w' (w.heap.size + 1) (qfn g) 23 ∧ (L 6 = true → w0.heap.size ≤ p 6 ∧ blk w' (p 6) (bif L 7 then (qfn B) else (qfn fun _ => 0)) 23)) _ [(0, 10), (1, 11), (2, 12), (3, 9), (4, 13), (5, 14), (6, 5), (8, 6)] [0, 1, 2, 3, 4, 5, 6, 7, 8]
    case hn => rfl
    case hB => kernel_rfl
    case hds => kernel_rfl
    case hA => (intro p; simp only [putsD, Act.put, List.setIfInBounds_toArray, List.set_cons_zero, List.set_cons_succ, List.getD_cons_zero, List.getD_cons_succ]; exact rfl)
    case h0 => exact fun p => ⟨Nat.le_refl _, hB, pq, r, fun h => absurd h (by decide)⟩
    case hmore => exact fun p L w1 w2 ⟨hsz, hB, pq, r, h_l⟩ hm => ⟨Nat.le_trans hsz hm.size, hB.trans (hm.mono (Nat.le_trans hW0 hsz)), pq.below hm pq.lt, r.below hm r.lt, fun hl => ⟨(h_l hl).1, (h_l hl).2.below hm (h_l hl).2.lt⟩⟩
    case hs =>
      intro more
      refine stepV 0 rfl rfl (fun _ _ _ h => h) ?_ ?_
      · rintro p L w1 ⟨hsz, hB, pq, r, h_l⟩ hk
        have L7 : L 7 = false := hk.2.2 7 rfl
        first | exact valR_row _ _ rfl _ rfl _ _ pq _ Try.underlying23 rfl (by first | kernel_rfl | (rw [qfn_size]; kernel_rfl)) rfl | (have hc := pq.cellIs (qfn_get _ (show 0 < 4 by omega)); go_simp; exact ⟨rfl, rfl⟩)
      refine stepV 1 rfl rfl (fun _ _ _ h => h) ?_ ?_
      · rintro p L w1 ⟨hsz, hB, pq, r, h_l⟩ hk
        have L7 : L 7 = false := hk.2.2 7 rfl
        first | exact valR_row _ _ rfl _ rfl _ _ r _ Try.underlying23 rfl (by first | kernel_rfl | (rw [qfn_size]; kernel_rfl)) rfl | (have hc := r.cellIs (qfn_get _ (show 0 < 4 by omega)); go_simp; exact ⟨rfl, rfl⟩)
      refine stepD 2 rfl (fun p => rfl) (fun _ _ _ h => h) more ?_ ?_
      · rintro p L w1 ⟨hsz, hB, pq, r, h_l⟩ hk
        go_simp
        refine (BT.out _).mono ?_
        rintro e w2 ⟨rfl, h2⟩
        first | exact ⟨rfl, h2⟩ | (subst h2; exact ⟨rfl, Below.refl _ _⟩)
      iterate 3 (refine stepV _ rfl rfl (fun _ _ _ h => h) (by intros; go_simp; exact ⟨rfl, rfl⟩) ?_)
      refine AllI.cons ?_ ?_
      · refine stepI_alloc 6 rfl (fun p => rfl) rfl (qfn fun _ => 0) 23 (fun p => rfl) ?_ ?_
        · intro p w1
          go_simp
          first | done | rfl | rw [zero_quat]
        rintro p L w1 ⟨hsz, hB, pq, r, h_l⟩ hk
        have L7 : L 7 = false := hk.2.2 7 rfl
        refine ⟨Nat.le_trans hsz (by simp), hB.alloc (Nat.le_trans (by first | exact hW0 | (have := hB.size; simp at this ⊢; omega)) hsz) _, pq.alloc _, r.alloc _, fun _ => ⟨hsz, ?_⟩⟩
        rw [show upL L 6 7 = false from L7]
        exact blk.new _ _ _
      refine AllI.cons ?_ ?_
      · refine stepI_store 7 rfl (fun p => rfl) (fun p => rfl) _ _ _ rfl (fun p => p 6) 0 (fun p => rfl) (fun p => (qfn B)) (fun p => rfl) (fun p => (qfn fun _ => 0)) (fun p => (qfn B)) 23 (fun p => over_q' _ _) (fun p => by first | (rw [qfn_size, qfn_size]; decide) | simp [qfn_size, qfn_size]) (fun p => by rw [qfn_size]; kernel_rfl) (fun p => qfn_one _) ?_ ?_
        · rintro p L w1 ⟨hsz, hB, pq, r, h_l⟩ hk
          have L7 : L 7 = false := hk.1
          have hh := (h_l (hk.2.1 6 rfl)).2
          rw [L7] at hh
          try simp only [cond_true, cond_false] at hh
          exact hh
        · rintro p L w1 ⟨hsz, hB, pq, r, h_l⟩ hk
          have L7 : L 7 = false := hk.1
          skip
          have hp := h_l (hk.2.1 6 rfl)
          refine ⟨(by simpa using hsz), Below.setRow hB (by first | exact Nat.le_trans hW0 hp.1 | exact ge_l | omega | (have := hB.size; simp at this ⊢; omega)) _, pq.rowOther (by first | exact Nat.ne_of_lt (Nat.lt_of_lt_of_le lt_pq hp.1) | omega) _, r.rowOther (by first | exact Nat.ne_of_lt (Nat.lt_of_lt_of_le lt_r hp.1) | omega) _, fun _ => ⟨hp.1, ?_⟩⟩
          rw [show upL L 7 7 = true from rfl]
          exact hp.2.row _
      refine stepV _ rfl rfl (fun _ _ _ h => h) (by intros; go_simp; exact ⟨rfl, rfl⟩) ?_
      exact AllI.nil
    case hV0 =>
      intro p q
      refine AllI.cons ?_ ?_
      · skip
        iterate 9 (refine AllI.cons (by first | exact .inl rfl | (refine .inr ?_; simp only [List.getD_cons_zero, List.getD_cons_succ]; done) | exact .inr rfl) ?_)
        exact AllI.nil
      exact AllI.nil
    case he =>
    clear hB pq r
    rintro p w0r ⟨hsz, hB, pq, r, h_l⟩
    obtain ⟨le_l, l⟩ := h_l rfl
    clear h_l
    replace l : blk w0r (p 6) (qfn B) 23 := l
    have ne_pq_l : w.heap.size ≠ p 6 := Nat.ne_of_lt (Nat.lt_of_lt_of_le lt_pq le_l)
    have ne_r_l : (w.heap.size + 1) ≠ p 6 := Nat.ne_of_lt (Nat.lt_of_lt_of_le lt_r le_l)
    have ge_l : w.heap.size ≤ p 6 := Nat.le_trans hW0 le_l
    generalize p 6 = l_b at *
    clear lt_pq
    clear lt_r
    clear hsz hW0
    clear BT
    go_upto_region 2 with (fail)
    have lt_pq := pq.lt
    have lt_r := r.lt
    have lt_l := l.lt
    have hW0 : w.heap.size ≤ w0r.heap.size := by have := hB.size; first | exact this | simpa using this
    apply wp_region_Q 13 [0, 1, 3, 7, 15, 31, 63, 127, 255, 511, 1023, 2047, 4095] [] [_, _, _, _, _, _, _, _, _, _, _, _, _] (fun p L w' => w0r.heap.size ≤ w'.heap.size ∧ Below w.heap.size w w' ∧ blk w' w.heap.size (qfn f) 23 ∧ blk w' (w.heap.size + 1) (qfn g) 23 ∧ blk w' l_b (qfn B) 23) _ [(0, 16), (1, 17), (2, 18), (3, 19), (4, 20), (5, 21), (6, 22), (7, 23), (8, 15), (9, 24), (10, 25), (11, 7), (12, 8)] [0, 1, 2, 3, 4, 5, 6, 7, 8, 9, 10, 11, 12]
    case hn => rfl
    case hB => kernel_rfl
    case hds => kernel_rfl
    case hA => (intro p; simp only [putsD, Act.put, List.setIfInBounds_toArray, List.set_cons_zero, List.set_cons_succ, List.getD_cons_zero, List.getD_cons_succ]; exact rfl)
    case h0 => exact fun p => ⟨Nat.le_refl _, hB, pq, r, l⟩
    case hmore => exact fun p L w1 w2 ⟨hsz, hB, pq, r, l⟩ hm => ⟨Nat.le_trans hsz hm.size, hB.trans (hm.mono (Nat.le_trans hW0 hsz)), pq.below hm pq.lt, r.below hm r.lt, l.below hm l.lt⟩
    case hs =>
      intro more
      refine stepV _ rfl rfl (fun _ _ _ h => h) (by intros; go_simp; exact ⟨rfl, rfl⟩) ?_
      refine stepV 1 rfl rfl (fun _ _ _ h => h) ?_ ?_
      · rintro p L w1 ⟨hsz, hB, pq, r, l⟩ hk
        have hc : w1.cell? ⟨l_b, 1, none⟩ = some (.int .i64 (B 1)) := l.cellIs (qfn_get B (by omega))
        go_simp
        exact ⟨rfl, rfl⟩
      refine stepV _ rfl rfl (fun _ _ _ h => h) (by intros; go_simp; exact ⟨rfl, rfl⟩) ?_
      refine stepV 3 rfl rfl (fun _ _ _ h => h) ?_ ?_
      · rintro p L w1 ⟨hsz, hB, pq, r, l⟩ hk
        have hc : w1.cell? ⟨l_b, 2, none⟩ = some (.int .i64 (B 2)) := l.cellIs (qfn_get B (by omega))
        go_simp
        exact ⟨rfl, rfl⟩
      refine stepV _ rfl rfl (fun _ _ _ h => h) (by intros; go_simp; exact ⟨rfl, rfl⟩) ?_
      refine stepV 5 rfl rfl (fun _ _ _ h => h) ?_ ?_
      · rintro p L w1 ⟨hsz, hB, pq, r, l⟩ hk
        have hc : w1.cell? ⟨l_b, 3, none⟩ = some (.int .i64 (B 3)) := l.cellIs (qfn_get B (by omega))
        go_simp
        exact ⟨rfl, rfl⟩
      refine stepV 6 rfl rfl (fun _ _ _ h => h) ?_ ?_
      · intros; (try simp only [vfn, qfn]); go_simp; exact ⟨rfl, rfl⟩
      refine stepD 7 rfl (fun p => rfl) (fun _ _ _ h => h) more ?_ ?_
      · rintro p L w1 ⟨hsz, hB, pq, r, l⟩ hk
        go_simp
        refine (NO.out _).mono ?_
        rintro e w2 ⟨rfl, h2⟩
        first | exact ⟨rfl, h2⟩ | (subst h2; exact ⟨rfl, Below.refl _ _⟩)
      iterate 5 (refine stepV _ rfl rfl (fun _ _ _ h => h) (by intros; go_simp; exact ⟨rfl, rfl⟩) ?_)
      exact AllI.nil
    case hV0 => exact fun p q => AllI.nil
    case he =>
    clear hB pq r l
    rintro p w0rr ⟨hsz, hB, pq, r, l⟩
    clear lt_pq
    clear lt_r
    clear lt_l
    clear hsz hW0
    clear NO
    go_wp2_with (fail)
    go_ret
    exact ⟨rfl, hB⟩
/-- What 'exact' gives. -/
def ExPost (q : Nat → Int) (L : Nat → Nat → Int) (n : Nat) (w : World) (e : Ending) (w' : World) : Prop :=
  ∃ U sl B, e = .returned (.tuple #[.agg (qfn U), sl, .bool B]) ∧ Below w.heap.size w w' ∧ (B = true → ∃ nb cap, U = qunF q ∧ okQ q = true ∧ zQ q = false ∧ 2 ≤ n ∧ n ≤ 4 ∧ sl = .slice (some ⟨nb, 0, none⟩) n cap ∧ w.heap.size ≤ nb ∧ ElemsA w' (some ⟨nb, 0, none⟩) n 7 (fun k => (sgc (exS q L k)).toList) ∧ (∀ s, s < n → vunE (L s) = 0 ∧ qbackE (qunF q) (vunF (L s)) = 0) ∧ valS (exS q L) n = true ∧ 536870912 ≤ sprI (exS q L) n n)
set_option maxRecDepth 100000 in
set_option maxHeartbeats 20000000 in
theorem sexact_any (q : Nat → Int) (L : Nat → Nat → Int) (a : Option Addr) (n c : Nat) (w : World) (el : ElemsA w a n 3 (fun k => (vfn (L k)).toList)) (hq : ∀ i, i < 4 → I64 (q i)) (hL : ∀ k, k < n → ∀ i, i < 3 → I64 (L k i)) (hnn : n ≤ maxLen) : Calls Try.prog 18 #[.agg (qfn q), .slice a n c] w fun e w' => ExPost q L n w e w' := by
  replace el := Lib.hid el
  replace hL := Lib.hid hL
  replace hq := Lib.hid hq
  have UN := Lib.hid (fun w => qunit_any q w)
  obtain ⟨i0, hi, hz0, hz1, hz2⟩ := info_parts (P := Try.prog) (e := 36) (by kernel_rfl : (Try.prog.info? 36).map (fun i => (i.zero, i.size, i.bytes)) = some (some (.agg #[.int .i64 0, .int .i64 0, .int .i64 0, .int .i64 0, .int .i64 0, .int .i64 0, .int .i64 0]), 7, 56))
  go_enter Try.func18, Try.ntmps18
  go_upto_region 1 with (fail)
  simp only [zero_quat]
  have qb : blk ((w.alloc (.cells (qfn q) 23)).alloc (.cells (qfn fun _ => 0) 23)) w.heap.size (qfn q) 23 := (blk.new _ _ _).alloc _
  have r : blk ((w.alloc (.cells (qfn q) 23)).alloc (.cells (qfn fun _ => 0) 23)) (w.heap.size + 1) (qfn fun _ => 0) 23 := blk.new' (by simp)
  have hB : Below w.heap.size w ((w.alloc (.cells (qfn q) 23)).alloc (.cells (qfn fun _ => 0) 23)) := by go_grown
  generalize ((w.alloc (.cells (qfn q) 23)).alloc (.cells (qfn fun _ => 0) 23)) = w0 at *
  go_wp2_with (fail)
  go_loopg [7] 4 (fun g_ iv wr => ∃ k : Nat, g_ + k = 4 ∧ iv = .int .i64 k ∧ Hid (∀ j, j < k → vb (q j) = true) ∧ blk wr w.heap.size (qfn q) 23 ∧ blk wr (w.heap.size + 1) (qfn fun _ => 0) 23 ∧ Below w.heap.size w wr)
  case atStart => exact ⟨0, rfl, rfl, fun j hj => by omega, qb, r, hB⟩
  case round =>
    clear qb r hB
    obtain ⟨k, hk, rfl, hall, qb, r, hB⟩ := hrel
    by_cases hkn : k < 4
    · have hdk : decide ((k : Int) < 4) = true := decide_eq_true (by omega)
      have hdk' : decide (k < 4) = true := decide_eq_true hkn
      have hk3 : (k : Int) < 4 := by omega
      have hwk : IntKind.i64.wrap ((k : Int) + 1) = ((k + 1 : Nat) : Int) := by rw [IntKind.wrap_i64]; omega
      have hck : wr.cell? ⟨w.heap.size, k, none⟩ = some (.int .i64 (q k)) := qb.cellIs (qfn_get _ hkn)
      by_cases h1 : q k < -1099511627776
      · have d1 : decide (q k < -1099511627776) = true := decide_eq_true h1
        go_wp2_with (first
          | (refine wpList_load_rowG ?hw _ _ rfl _ rfl _ _ _ _ qb Try.underlying23 rfl ?hi ?_; (case hw => (first | rfl | (simp [Region.wanted, yielded]; done))); (case hi => (first | kernel_rfl | (rw [qfn_size]; kernel_rfl))))
          | (refine wpList_store_row rfl _ _ _ rfl _ rfl _ rfl _ _ r (by first | kernel_rfl | (rw [qfn_size]; kernel_rfl)) (by first | rfl | simp only [qfn_size]) (by first | exact qfn_one _ | rfl) ?_))
        refine bodyPost_ret (results_ctt rfl _ _ _ _ _ _ _ rfl (r.row _) Try.underlying23 rfl (by first | kernel_rfl | (rw [qfn_size]; kernel_rfl))) rfl ?_
        unfold ExPost
        refine ⟨q, .slice none 0 0, false, ?_, Below.setRow hB (by omega) _, fun h => by cases h⟩
        rfl
      have d1 : decide (q k < -1099511627776) = false := decide_eq_false h1
      by_cases h2 : 1099511627776 < q k
      · have d2 : decide (1099511627776 < q k) = true := decide_eq_true h2
        go_wp2_with (first
          | (refine wpList_load_rowG ?hw _ _ rfl _ rfl _ _ _ _ qb Try.underlying23 rfl ?hi ?_; (case hw => (first | rfl | (simp [Region.wanted, yielded]; done))); (case hi => (first | kernel_rfl | (rw [qfn_size]; kernel_rfl))))
          | (refine wpList_store_row rfl _ _ _ rfl _ rfl _ rfl _ _ r (by first | kernel_rfl | (rw [qfn_size]; kernel_rfl)) (by first | rfl | simp only [qfn_size]) (by first | exact qfn_one _ | rfl) ?_))
        refine bodyPost_ret (results_ctt rfl _ _ _ _ _ _ _ rfl (r.row _) Try.underlying23 rfl (by first | kernel_rfl | (rw [qfn_size]; kernel_rfl))) rfl ?_
        unfold ExPost
        refine ⟨q, .slice none 0 0, false, ?_, Below.setRow hB (by omega) _, fun h => by cases h⟩
        rfl
      have d2 : decide (1099511627776 < q k) = false := decide_eq_false h2
      have hv : Hid (vb (q k) = true) := (vb_iff _).2 (by omega)
      go_wp2_with (fail)
      go_roundg (4 - (k + 1))
      case rel => exact ⟨k + 1, by omega, rfl, fun j hj => by
        by_cases h : j < k
        · exact hall.out j h
        · obtain rfl : j = k := by omega
          exact hv.out, qb, r, hB⟩
      case measure => omega
    · obtain rfl : k = 4 := by omega
      have hok : okQ q = true := (okQ_iff q).2 fun i hi => hall.out i hi
      have hE : qunE q = if zQ q then 4 else 0 := by unfold qunE; rw [hok, if_pos rfl]
      obtain ⟨E, hEE⟩ : ∃ E, qunE q = E := ⟨_, rfl⟩
      rw [hEE] at UN hE
      obtain ⟨u, hu⟩ : ∃ u, qunF q = u := ⟨_, rfl⟩
      rw [hu] at UN
      replace hu := Lib.hid hu
      replace hok := Lib.hid hok
      have hEz : Hid (E = 0 → zQ q = false) := fun h => by
        cases hz : zQ q with
        | false => rfl
        | true => rw [hz, if_pos rfl] at hE; omega
      clear hE hEE hall
      go_upto_region 6 with (fail)
      have lt_qb := qb.lt
      have lt_r := r.lt
      have hW0 : w.heap.size ≤ wr.heap.size := by have := hB.size; first | exact this | simpa using this
      apply wp_region_Q 8 [0, 1, 3, 7, 15, 31, 63, 127] [5] [_, _, _, _, _, (fun p => .pointer (some ⟨p 5, 0, none⟩)), (fun _ => undef), _] (fun p L w' => wr.heap.size ≤ w'.heap.size ∧ Below w.heap.size w w' ∧ blk w' w.heap.size (qfn q) 23 ∧ blk w' (w.heap.size + 1) (qfn fun _ => 0) 23 ∧ (L 5 = true → wr.heap.size ≤ p 5 ∧ blk w' (p 5) (bif L 6 then (qfn u) else (qfn fun _ => 0)) 23)) _ [(0, 34), (1, 35), (2, 33), (3, 36), (4, 37), (5, 8), (7, 9)] [0, 1, 2, 3, 4, 5, 6, 7]
      case hn => rfl
      case hB => kernel_rfl
      case hds => kernel_rfl
      case hA => (intro p; simp only [putsD, Act.put, List.setIfInBounds_toArray, List.set_cons_zero, List.set_cons_succ, List.getD_cons_zero, List.getD_cons_succ]; exact rfl)
      case h0 => exact fun p => ⟨Nat.le_refl _, hB, qb, r, fun h => absurd h (by decide)⟩
      case hmore => exact fun p L w1 w2 ⟨hsz, hB, qb, r, h_ub⟩ hm => ⟨Nat.le_trans hsz hm.size, hB.trans (hm.mono (Nat.le_trans hW0 hsz)), qb.below hm qb.lt, r.below hm r.lt, fun hl => ⟨(h_ub hl).1, (h_ub hl).2.below hm (h_ub hl).2.lt⟩⟩
      case hs =>
        intro more
        refine stepV 0 rfl rfl (fun _ _ _ h => h) ?_ ?_
        · rintro p L w1 ⟨hsz, hB, qb, r, h_ub⟩ hk
          have L6 : L 6 = false := hk.2.2 6 rfl
          first | exact valR_row _ _ rfl _ rfl _ _ qb _ Try.underlying23 rfl (by first | kernel_rfl | (rw [qfn_size]; kernel_rfl)) rfl | (have hc := qb.cellIs (qfn_get _ (show 0 < 4 by omega)); go_simp; exact ⟨rfl, rfl⟩)
        refine stepD 1 rfl (fun p => rfl) (fun _ _ _ h => h) more ?_ ?_
        · rintro p L w1 ⟨hsz, hB, qb, r, h_ub⟩ hk
          go_simp
          refine (UN.out _).mono ?_
          rintro e w2 ⟨rfl, h2⟩
          first | exact ⟨rfl, h2⟩ | (subst h2; exact ⟨rfl, Below.refl _ _⟩)
        iterate 3 (refine stepV _ rfl rfl (fun _ _ _ h => h) (by intros; go_simp; exact ⟨rfl, rfl⟩) ?_)
        refine AllI.cons ?_ ?_
        · refine stepI_alloc 5 rfl (fun p => rfl) rfl (qfn fun _ => 0) 23 (fun p => rfl) ?_ ?_
          · intro p w1
            go_simp
            first | done | rfl | rw [zero_quat]
          rintro p L w1 ⟨hsz, hB, qb, r, h_ub⟩ hk
          have L6 : L 6 = false := hk.2.2 6 rfl
          refine ⟨Nat.le_trans hsz (by simp), hB.alloc (Nat.le_trans (by first | exact hW0 | (have := hB.size; simp at this ⊢; omega)) hsz) _, qb.alloc _, r.alloc _, fun _ => ⟨hsz, ?_⟩⟩
          rw [show upL L 5 6 = false from L6]
          exact blk.new _ _ _
        refine AllI.cons ?_ ?_
        · refine stepI_store 6 rfl (fun p => rfl) (fun p => rfl) _ _ _ rfl (fun p => p 5) 0 (fun p => rfl) (fun p => (qfn u)) (fun p => rfl) (fun p => (qfn fun _ => 0)) (fun p => (qfn u)) 23 (fun p => over_q' _ _) (fun p => by first | (rw [qfn_size, qfn_size]; decide) | simp [qfn_size, qfn_size]) (fun p => by rw [qfn_size]; kernel_rfl) (fun p => qfn_one _) ?_ ?_
          · rintro p L w1 ⟨hsz, hB, qb, r, h_ub⟩ hk
            have L6 : L 6 = false := hk.1
            have hh := (h_ub (hk.2.1 5 rfl)).2
            rw [L6] at hh
            try simp only [cond_true, cond_false] at hh
            exact hh
          · rintro p L w1 ⟨hsz, hB, qb, r, h_ub⟩ hk
            have L6 : L 6 = false := hk.1
            skip
            have hp := h_ub (hk.2.1 5 rfl)
            refine ⟨(by simpa using hsz), Below.setRow hB (by first | exact Nat.le_trans hW0 hp.1 | exact ge_ub | omega | (have := hB.size; simp at this ⊢; omega)) _, qb.rowOther (by first | exact Nat.ne_of_lt (Nat.lt_of_lt_of_le lt_qb hp.1) | omega) _, r.rowOther (by first | exact Nat.ne_of_lt (Nat.lt_of_lt_of_le lt_r hp.1) | omega) _, fun _ => ⟨hp.1, ?_⟩⟩
            rw [show upL L 6 6 = true from rfl]
            exact hp.2.row _
        refine stepV _ rfl rfl (fun _ _ _ h => h) (by intros; go_simp; exact ⟨rfl, rfl⟩) ?_
        exact AllI.nil
      case hV0 =>
        intro p q
        refine AllI.cons ?_ ?_
        · skip
          iterate 8 (refine AllI.cons (by first | exact .inl rfl | (refine .inr ?_; simp only [List.getD_cons_zero, List.getD_cons_succ]; done) | exact .inr rfl) ?_)
          exact AllI.nil
        exact AllI.nil
      case he =>
      clear hB qb r
      rintro p wrr ⟨hsz, hB, qb, r, h_ub⟩
      obtain ⟨le_ub, ub⟩ := h_ub rfl
      clear h_ub
      replace ub : blk wrr (p 5) (qfn u) 23 := ub
      have ne_qb_ub : w.heap.size ≠ p 5 := Nat.ne_of_lt (Nat.lt_of_lt_of_le lt_qb le_ub)
      have ne_r_ub : (w.heap.size + 1) ≠ p 5 := Nat.ne_of_lt (Nat.lt_of_lt_of_le lt_r le_ub)
      have ge_ub : w.heap.size ≤ p 5 := Nat.le_trans hW0 le_ub
      generalize p 5 = ub_b at *
      clear lt_qb
      clear lt_r
      clear hsz hW0
      clear UN
      by_cases hE0 : E = 0
      case neg =>
        have d1 : decide (E = 0) = false := decide_eq_false hE0
        have d1b : (E == 0) = false := by simp [hE0]
        have d1c : (E != 0) = true := by simp [hE0]
        replace hE0 := Lib.hid hE0
        go_wp2_with (first
          | (refine wpList_load_rowG ?hw _ _ rfl _ rfl _ _ _ _ qb Try.underlying23 rfl ?hi ?_; (case hw => (first | rfl | (simp [Region.wanted, yielded]; done))); (case hi => (first | kernel_rfl | (rw [qfn_size]; kernel_rfl))))
          | (refine wpList_store_row rfl _ _ _ rfl _ rfl _ rfl _ _ r (by first | kernel_rfl | (rw [qfn_size]; kernel_rfl)) (by first | rfl | simp only [qfn_size]) (by first | exact qfn_one _ | rfl) ?_))
        refine bodyPost_ret (results_ctt rfl _ _ _ _ _ _ _ rfl (r.row _) Try.underlying23 rfl (by first | kernel_rfl | (rw [qfn_size]; kernel_rfl))) rfl ?_
        unfold ExPost
        refine ⟨q, .slice none 0 0, false, ?_, Below.setRow hB (by omega) _, fun h => by cases h⟩
        rfl
      subst hE0
      have hz := Lib.hid (hEz.out rfl)
      clear hEz
      by_cases hn2 : n < 2
      case pos =>
        have d1 : decide ((n : Int) < 2) = true := decide_eq_true (by omega)
        have d1' : decide (n < 2) = true := decide_eq_true hn2
        replace hn2 := Lib.hid hn2
        go_wp2_with (first
          | (refine wpList_load_rowG ?hw _ _ rfl _ rfl _ _ _ _ qb Try.underlying23 rfl ?hi ?_; (case hw => (first | rfl | (simp [Region.wanted, yielded]; done))); (case hi => (first | kernel_rfl | (rw [qfn_size]; kernel_rfl))))
          | (refine wpList_store_row rfl _ _ _ rfl _ rfl _ rfl _ _ r (by first | kernel_rfl | (rw [qfn_size]; kernel_rfl)) (by first | rfl | simp only [qfn_size]) (by first | exact qfn_one _ | rfl) ?_))
        refine bodyPost_ret (results_ctt rfl _ _ _ _ _ _ _ rfl (r.row _) Try.underlying23 rfl (by first | kernel_rfl | (rw [qfn_size]; kernel_rfl))) rfl ?_
        unfold ExPost
        refine ⟨q, .slice none 0 0, false, ?_, Below.setRow hB (by omega) _, fun h => by cases h⟩
        rfl
      have d1 : decide ((n : Int) < 2) = false := decide_eq_false (by omega)
      have d1' : decide (n < 2) = false := decide_eq_false hn2
      by_cases hn4 : 4 < n
      case pos =>
        have d2 : decide ((4 : Int) < n) = true := decide_eq_true (by omega)
        have d2' : decide (4 < n) = true := decide_eq_true hn4
        replace hn4 := Lib.hid hn4
        go_wp2_with (first
          | (refine wpList_load_rowG ?hw _ _ rfl _ rfl _ _ _ _ qb Try.underlying23 rfl ?hi ?_; (case hw => (first | rfl | (simp [Region.wanted, yielded]; done))); (case hi => (first | kernel_rfl | (rw [qfn_size]; kernel_rfl))))
          | (refine wpList_store_row rfl _ _ _ rfl _ rfl _ rfl _ _ r (by first | kernel_rfl | (rw [qfn_size]; kernel_rfl)) (by first | rfl | simp only [qfn_size]) (by first | exact qfn_one _ | rfl) ?_))
        refine bodyPost_ret (results_ctt rfl _ _ _ _ _ _ _ rfl (r.row _) Try.underlying23 rfl (by first | kernel_rfl | (rw [qfn_size]; kernel_rfl))) rfl ?_
        unfold ExPost
        refine ⟨q, .slice none 0 0, false, ?_, Below.setRow hB (by omega) _, fun h => by cases h⟩
        rfl
      have d2 : decide ((4 : Int) < n) = false := decide_eq_false (by omega)
      have d2' : decide (4 < n) = false := decide_eq_false hn4
      have hn := Lib.hid (show 2 ≤ n ∧ n ≤ 4 by omega)
      have hgb : w.heap.size ≤ wrr.heap.size := hB.size
      have ltr := r.lt
      have ltu := ub.lt
      clear hn2 hn4 hk hkn
      go_wp2_with (fail)
      generalize hbase : wrr.heap.size = base at hgb ltr ltu
      replace hbase := Lib.hid hbase
      go_loopg [11, 10] n (fun g_ iv jo wr => ∃ K : Nat, g_ + K = n ∧ iv = .int .i64 K ∧ wr.ownsRow base 36 7 jo K (flS (exS q L) K) ∧ base ≤ wr.heap.size ∧ Hid (∀ s, s < K → vunE (L s) = 0 ∧ qbackE (qunF q) (vunF (L s)) = 0) ∧ blk wr (w.heap.size + 1) (qfn fun _ => 0) 23 ∧ blk wr ub_b (qfn u) 23 ∧ Below w.heap.size w wr)
      case atStart => exact ⟨0, by omega, rfl, World.ownsRow_nil _ _ _ _, Nat.le_of_eq hbase.out.symm, fun s hs => by omega, r, ub, hB⟩
      case round =>
        clear hbase r ub hB qb
        obtain ⟨K, hK, rfl, hrow, hbs, hall, r, ub, hB⟩ := hrel
        by_cases hKn : K < n
        · have hdK : decide ((K : Int) < n) = true := decide_eq_true (by omega)
          have hdK' : decide (K < n) = true := decide_eq_true hKn
          have hk3 : (K : Int) < n := by (have := hn.out; omega)
          have hk0 : (0 : Int) ≤ K := by (have := hn.out; omega)
          have hwK : IntKind.i64.wrap ((K : Int) + 1) = ((K + 1 : Nat) : Int) := by rw [IntKind.wrap_i64]; (have := hn.out; omega)
          obtain ⟨eb, eo, rfl, hEl, hE⟩ := el.out K hKn
          replace hE : w.rangeAt eb (eo + K * 3) ((vfn (L K)).toList) := hE
          have VU := Lib.hid (fun w => vunit_any (L K) w (hL.out K hKn))
          have hst : exS q L K = ⟨vunF (L K), qbackF u (vunF (L K)), 1⟩ := by unfold exS; rw [hu.out]
          have hfl : flS (exS q L) (K + 1) = flS (exS q L) K ++ (sgc (exS q L K)).toList := rfl
          rw [hst] at hfl
          have hq0 : Hid (∀ i, i < 4 → I64 (u i)) := fun i hi => by rw [← hu.out]; exact qun_I q i hi
          have BK := Lib.hid (fun w => qback_any u (vunF (L K)) w hq0.out)
          obtain ⟨x, hx⟩ : ∃ x, vunF (L K) = x := ⟨_, rfl⟩
          obtain ⟨xe, hxe⟩ : ∃ xe, vunE (L K) = xe := ⟨_, rfl⟩
          rw [hx] at hfl BK VU
          rw [hxe] at VU
          obtain ⟨y, hy⟩ : ∃ y, qbackF u x = y := ⟨_, rfl⟩
          obtain ⟨ye, hye⟩ : ∃ ye, qbackE u x = ye := ⟨_, rfl⟩
          rw [hy] at hfl BK
          rw [hye] at BK
          have hgood : Hid (xe = 0 → ye = 0 → ∀ s, s < K + 1 → vunE (L s) = 0 ∧ qbackE (qunF q) (vunF (L s)) = 0) := fun h1 h2 s hs => by
            by_cases h : s < K
            · exact hall.out s h
            · obtain rfl : s = K := by omega
              rw [hu.out, hx, hye, hxe]; exact ⟨h1, h2⟩
          replace hfl := Lib.hid hfl
          clear hst hx hxe hy hye hq0 hall
          go_upto_region 13 with (fail)
          go_upto_region 14 with (first | (refine wpList_load_elem ?hw _ _ rfl _ _ rfl (vfn (L K)) (range_below hE hB hEl) _ Try.underlying31 rfl ?hi ?_; (case hw => (first | rfl | (simp [Region.wanted, yielded]; done))); (case hi => (rw [vfn_size]; kernel_rfl))) | (go_at_call 28; with_reducible refine (VU.out _).mono ?_; rintro e w1 ⟨rfl, hb⟩; replace hB := hB.trans (hb.mono hB.size); replace hrow := own_below hrow hb; replace hbs := Nat.le_trans hbs hb.size; replace r := r.below hb r.lt; replace ub := ub.below hb ub.lt; clear hb) | (rw [zero_vec]; refine wpList_store_row rfl _ _ _ rfl _ rfl _ rfl _ _ (blk.new _ _ _) (by first | kernel_rfl | (rw [vfn_size]; kernel_rfl)) (by first | rfl | simp only [vfn_size]) (by first | exact vfn_one _ | rfl) ?_))
          have hnew : Below w1.heap.size w1 ((w1.alloc (.cells (vfn fun _ => 0) 31)).setRow w1.heap.size (vfn x)) := Below.setRow ((Below.refl _ _).alloc (Nat.le_refl _) _) (Nat.le_refl _) _
          replace hrow := own_below hrow hnew
          replace hbs := Nat.le_trans hbs hnew.size
          clear hnew
          have xb := (blk.new w1 (vfn fun _ => 0) 31).row (vfn x)
          replace hB := Below.setRow (hB.alloc hB.size (.cells (vfn fun _ => 0) 31)) (g := w1.heap.size) hB.size (vfn x)
          have hne : ∀ x, x < w1.heap.size → x ≠ w1.heap.size := fun x hx => Nat.ne_of_lt hx
          replace r := (r.alloc (.cells (vfn fun _ => 0) 31)).rowOther (hne _ r.lt) (vfn x)
          replace ub := (ub.alloc (.cells (vfn fun _ => 0) 31)).rowOther (hne _ ub.lt) (vfn x)
          clear hne
          generalize (w1.alloc (.cells (vfn fun _ => 0) 31)).setRow w1.heap.size (vfn x) = w1x at *
          generalize w1.heap.size = xb_b at *
          clear VU hE
          go_upto_region 15 with (first | (refine wpList_load_rowG ?hw _ _ rfl _ rfl _ _ _ _ ub Try.underlying23 rfl ?hi ?_; (case hw => (first | rfl | (simp [Region.wanted, yielded]; done))); (case hi => (first | kernel_rfl | (rw [qfn_size]; kernel_rfl)))) | (refine wpList_load_rowG ?hw _ _ rfl _ rfl _ _ _ _ xb Try.underlying31 rfl ?hi ?_; (case hw => (first | rfl | (simp [Region.wanted, yielded]; done))); (case hi => (first | kernel_rfl | (rw [vfn_size]; kernel_rfl)))) | (go_at_call 68; with_reducible refine (BK.out _).mono ?_; rintro e w2 ⟨rfl, hb⟩; replace hB := hB.trans (hb.mono hB.size); replace hrow := own_below hrow hb; replace hbs := Nat.le_trans hbs hb.size; replace r := r.below hb r.lt; replace ub := ub.below hb ub.lt; replace xb := xb.below hb xb.lt; clear hb) | (rw [zero_vec]; refine wpList_store_row rfl _ _ _ rfl _ rfl _ rfl _ _ (blk.new _ _ _) (by first | kernel_rfl | (rw [vfn_size]; kernel_rfl)) (by first | rfl | simp only [vfn_size]) (by first | exact vfn_one _ | rfl) ?_))
          have hnew : Below w2.heap.size w2 ((w2.alloc (.cells (vfn fun _ => 0) 31)).setRow w2.heap.size (vfn y)) := Below.setRow ((Below.refl _ _).alloc (Nat.le_refl _) _) (Nat.le_refl _) _
          replace hrow := own_below hrow hnew
          replace hbs := Nat.le_trans hbs hnew.size
          clear hnew
          have yb := (blk.new w2 (vfn fun _ => 0) 31).row (vfn y)
          replace hB := Below.setRow (hB.alloc hB.size (.cells (vfn fun _ => 0) 31)) (g := w2.heap.size) hB.size (vfn y)
          have hne : ∀ x, x < w2.heap.size → x ≠ w2.heap.size := fun x hx => Nat.ne_of_lt hx
          replace r := (r.alloc (.cells (vfn fun _ => 0) 31)).rowOther (hne _ r.lt) (vfn y)
          replace ub := (ub.alloc (.cells (vfn fun _ => 0) 31)).rowOther (hne _ ub.lt) (vfn y)
          replace xb := (xb.alloc (.cells (vfn fun _ => 0) 31)).rowOther (hne _ xb.lt) (vfn y)
          clear hne
          generalize (w2.alloc (.cells (vfn fun _ => 0) 31)).setRow w2.heap.size (vfn y) = w2x at *
          generalize w2.heap.size = yb_b at *
          clear BK
          by_cases hx0 : xe = 0
          case neg =>
            have d1 : decide (xe = 0) = false := decide_eq_false hx0
            have d1b : (xe == 0) = false := by simp [hx0]
            have d1c : (xe != 0) = true := by simp [hx0]
            replace hx0 := Lib.hid hx0
            go_wp2_with (first
              | (refine wpList_load_rowG ?hw _ _ rfl _ rfl _ _ _ _ ub Try.underlying23 rfl ?hi ?_; (case hw => (first | rfl | (simp [Region.wanted, yielded]; done))); (case hi => (first | kernel_rfl | (rw [qfn_size]; kernel_rfl))))
              | (refine wpList_store_row rfl _ _ _ rfl _ rfl _ rfl _ _ r (by first | kernel_rfl | (rw [qfn_size]; kernel_rfl)) (by first | rfl | simp only [qfn_size]) (by first | exact qfn_one _ | rfl) ?_))
            refine bodyPost_ret (results_ctt rfl _ _ _ _ _ _ _ rfl (r.row _) Try.underlying23 rfl (by first | kernel_rfl | (rw [qfn_size]; kernel_rfl))) rfl ?_
            unfold ExPost
            refine ⟨u, .slice none 0 0, false, ?_, Below.setRow hB (by omega) _, fun h => by cases h⟩
            rfl
          by_cases hy0 : ye = 0
          case neg =>
            have d1 : decide (ye = 0) = false := decide_eq_false hy0
            have d1b : (ye == 0) = false := by simp [hy0]
            have d1c : (ye != 0) = true := by simp [hy0]
            subst hx0
            replace hy0 := Lib.hid hy0
            go_wp2_with (first
              | (refine wpList_load_rowG ?hw _ _ rfl _ rfl _ _ _ _ ub Try.underlying23 rfl ?hi ?_; (case hw => (first | rfl | (simp [Region.wanted, yielded]; done))); (case hi => (first | kernel_rfl | (rw [qfn_size]; kernel_rfl))))
              | (refine wpList_store_row rfl _ _ _ rfl _ rfl _ rfl _ _ r (by first | kernel_rfl | (rw [qfn_size]; kernel_rfl)) (by first | rfl | simp only [qfn_size]) (by first | exact qfn_one _ | rfl) ?_))
            refine bodyPost_ret (results_ctt rfl _ _ _ _ _ _ _ rfl (r.row _) Try.underlying23 rfl (by first | kernel_rfl | (rw [qfn_size]; kernel_rfl))) rfl ?_
            unfold ExPost
            refine ⟨u, .slice none 0 0, false, ?_, Below.setRow hB (by omega) _, fun h => by cases h⟩
            rfl
          subst hx0
          subst hy0
          replace hgood := Lib.hid (hgood.out rfl rfl)
          rw [show vfn x = #[Value.int .i64 (x 0), .int .i64 (x 1), .int .i64 (x 2)] from by unfold vfn; rfl] at xb
          rw [show vfn y = #[Value.int .i64 (y 0), .int .i64 (y 1), .int .i64 (y 2)] from by unfold vfn; rfl] at yb
          have hlt := hrow.lt
          have hk17 : K + 1 ≤ maxLen := Nat.le_trans (show K + 1 ≤ 5 by have := hn.out; omega) (by decide)
          have hk56 : (K + 1) * 56 ≤ 140737488355328 := by have := hn.out; omega
          go_wp2_with (first | (refine wpList_load_rowG ?hw _ _ rfl _ rfl _ _ _ _ xb Try.underlying31 rfl ?hi ?_; (case hw => (first | rfl | (simp [Region.wanted, yielded]; done))); (case hi => (first | kernel_rfl | (rw [vfn_size]; kernel_rfl)))) | (refine wpList_load_rowG ?hw _ _ rfl _ rfl _ _ _ _ yb Try.underlying31 rfl ?hi ?_; (case hw => (first | rfl | (simp [Region.wanted, yielded]; done))); (case hi => (first | kernel_rfl | (rw [vfn_size]; kernel_rfl)))) | (at_builtin; refine wpList_append_own _ rfl _ _ 24 rfl base 36 i0 (.agg #[.int .i64 0, .int .i64 0, .int .i64 0, .int .i64 0, .int .i64 0, .int .i64 0, .int .i64 0]) 7 56 Try.underlying24 hi hz0 hz1 hz2 rfl (by decide) _ _ _ rfl (hrow.alloc _) ⟨w2x.heap.size, 0, none⟩ 1 1 (sgc ⟨x, y, 1⟩).toList rfl rfl (cells_new _ (sgc ⟨x, y, 1⟩) _) (sgc_ones _) hk17 hk56 (Nat.le_trans hbs (by simp)) ?_; intro v' w3 hown' hgrow hnil))
          rw [← hfl.out] at hown'
          have hBa := hB.alloc hB.size (.cells (sgc ⟨x, y, 1⟩) 36)
          replace hB := hBa.grown hgrow (Nat.le_trans hB.size (by simp)) (fun k hk => Nat.le_trans hgb (hlt k hk).1)
          replace r := blk_grown (r.alloc (.cells (sgc ⟨x, y, 1⟩) 36)) hgrow (fun k hk => Nat.ne_of_gt (Nat.lt_of_lt_of_le ltr (hlt k hk).1))
          replace ub := blk_grown (ub.alloc (.cells (sgc ⟨x, y, 1⟩) 36)) hgrow (fun k hk => Nat.ne_of_gt (Nat.lt_of_lt_of_le ltu (hlt k hk).1))
          replace hbs := Nat.le_trans hbs (Nat.le_trans (by simp) hgrow.size)
          go_roundg (n - (K + 1))
          case rel => exact ⟨K + 1, by omega, rfl, hown', hbs, hgood.out, r, ub, hB⟩
          case measure => omega
        · obtain rfl : K = n := by omega
          have hdK : decide ((K : Int) < K) = false := decide_eq_false (by omega)
          have hdK' : decide (K < K) = false := decide_eq_false (by omega)
          have hn0 := hn.out
          obtain ⟨nb, cap, rfl, hnb, hel⟩ := el_own (by omega) hrow
          have SP := Lib.hid (fun w el => sspread_any (exS q L) (some ⟨nb, 0, none⟩) K cap w el (by omega))
          unfold sprV matE at SP
          have hGS : Hid (valS (exS q L) K = valS (exS q L) K) := rfl
          obtain ⟨vb1, hvb⟩ : ∃ b, valS (exS q L) K = b := ⟨_, rfl⟩
          rw [hvb] at SP
          obtain ⟨G, hG⟩ : ∃ G, sprI (exS q L) K K = G := ⟨_, rfl⟩
          rw [hG] at SP
          replace hG := Lib.hid hG
          replace hvb := Lib.hid hvb
          have hnb2 := hnb
          have ltnb := (hel 0 (by omega))
          clear hn0 hGS ltnb
          replace hel := Lib.hid hel
          replace hrow := Lib.hid hrow
          cases vb1
          case false =>
            go_wp2_with (first | (refine wpList_load_rowG ?hw _ _ rfl _ rfl _ _ _ _ ub Try.underlying23 rfl ?hi ?_; (case hw => (first | rfl | (simp [Region.wanted, yielded]; done))); (case hi => (first | kernel_rfl | (rw [qfn_size]; kernel_rfl)))) | (refine wpList_store_row rfl _ _ _ rfl _ rfl _ rfl _ _ r (by first | kernel_rfl | (rw [qfn_size]; kernel_rfl)) (by first | rfl | simp only [qfn_size]) (by first | exact qfn_one _ | rfl) ?_) | (go_at_call 16; with_reducible refine (SP.out _ hel.out).mono ?_; rintro e w4 ⟨rfl, hb⟩; replace hB := hB.trans (hb.mono hB.size); replace r := r.below hb r.lt; replace ub := ub.below hb ub.lt; replace hel := Lib.hid (hel.out.below hb); clear hb))
            have hne : nb ≠ w.heap.size + 1 := by omega
            refine bodyPost_ret (results_ctt rfl _ _ _ _ _ _ _ rfl (r.row _) Try.underlying23 rfl (by first | kernel_rfl | (rw [qfn_size]; kernel_rfl))) rfl ?_
            unfold ExPost
            refine ⟨u, .slice (some ⟨nb, 0, none⟩) K cap, false, ?_, Below.setRow hB (by omega) _, fun h => by cases h⟩
            rfl
          by_cases hG2 : 536870912 ≤ G
          case neg =>
            have dG : decide (536870912 ≤ G) = false := decide_eq_false hG2
            replace hG2 := Lib.hid hG2
            go_wp2_with (first | (refine wpList_load_rowG ?hw _ _ rfl _ rfl _ _ _ _ ub Try.underlying23 rfl ?hi ?_; (case hw => (first | rfl | (simp [Region.wanted, yielded]; done))); (case hi => (first | kernel_rfl | (rw [qfn_size]; kernel_rfl)))) | (refine wpList_store_row rfl _ _ _ rfl _ rfl _ rfl _ _ r (by first | kernel_rfl | (rw [qfn_size]; kernel_rfl)) (by first | rfl | simp only [qfn_size]) (by first | exact qfn_one _ | rfl) ?_) | (go_at_call 16; with_reducible refine (SP.out _ hel.out).mono ?_; rintro e w4 ⟨rfl, hb⟩; replace hB := hB.trans (hb.mono hB.size); replace r := r.below hb r.lt; replace ub := ub.below hb ub.lt; replace hel := Lib.hid (hel.out.below hb); clear hb))
            have hne : nb ≠ w.heap.size + 1 := by omega
            refine bodyPost_ret (results_ctt rfl _ _ _ _ _ _ _ rfl (r.row _) Try.underlying23 rfl (by first | kernel_rfl | (rw [qfn_size]; kernel_rfl))) rfl ?_
            unfold ExPost
            refine ⟨u, .slice (some ⟨nb, 0, none⟩) K cap, false, ?_, Below.setRow hB (by omega) _, fun h => by cases h⟩
            rfl
          have dG : decide (536870912 ≤ G) = true := decide_eq_true hG2
          replace hG2 := Lib.hid hG2
          go_wp2_with (first | (refine wpList_load_rowG ?hw _ _ rfl _ rfl _ _ _ _ ub Try.underlying23 rfl ?hi ?_; (case hw => (first | rfl | (simp [Region.wanted, yielded]; done))); (case hi => (first | kernel_rfl | (rw [qfn_size]; kernel_rfl)))) | (refine wpList_store_row rfl _ _ _ rfl _ rfl _ rfl _ _ r (by first | kernel_rfl | (rw [qfn_size]; kernel_rfl)) (by first | rfl | simp only [qfn_size]) (by first | exact qfn_one _ | rfl) ?_) | (go_at_call 16; with_reducible refine (SP.out _ hel.out).mono ?_; rintro e w4 ⟨rfl, hb⟩; replace hB := hB.trans (hb.mono hB.size); replace r := r.below hb r.lt; replace ub := ub.below hb ub.lt; replace hel := Lib.hid (hel.out.below hb); clear hb))
          have hne : nb ≠ w.heap.size + 1 := by omega
          refine bodyPost_ret (results_ctt rfl _ _ _ _ _ _ _ rfl (r.row _) Try.underlying23 rfl (by first | kernel_rfl | (rw [qfn_size]; kernel_rfl))) rfl ?_
          unfold ExPost
          refine ⟨u, .slice (some ⟨nb, 0, none⟩) K cap, true, ?_, Below.setRow hB (by omega) _, fun _ => ⟨nb, cap, hu.out.symm, hok.out, hz.out, hn.out.1, hn.out.2, rfl, Nat.le_trans hgb hnb, el_row hel.out (by omega), hall.out, hvb.out, by rw [hG.out]; exact hG2.out⟩⟩
          rfl
end Go.Proofs.Ytkmelddejdikgaa
